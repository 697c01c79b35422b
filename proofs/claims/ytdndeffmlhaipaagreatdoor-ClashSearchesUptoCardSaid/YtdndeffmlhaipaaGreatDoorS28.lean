/- The output of a hasher of words. No condition. -/
import Derived.Test.YtdndeffmlhaipaaGreatDoorS27
import Derived.Test.YtdndeffmlhaipaaGreatDoorS18
import Derived.Test.YtdndeffmlhaipaaGreatDoorS26
set_option linter.all false
set_option maxRecDepth 100000
set_option maxHeartbeats 8000000
namespace Go.Proofs.YtdndeffmlhaipaaGreatDoor
open Go.ChangeShapes Go.WideShapes Go.ChangeAt Go.RowKit Go.Joins Go.Shelf Go.Maps
open Go.Lib (hid)
attribute [local go_sem] Oper.semAt_some
theorem qe5 (h0 msg:List Int)(node:Bool)(hh:Words 64 8 h0)(hm: ∀z∈msg,0≤z∧z≤255)(p:Nat)(hv:Value)(w:World)(hE:QE true w p hv h0 msg)(hlen:(msg.length:Int)≤281474976710656):
  Calls Tryz.prog 198 #[.pointer (some ⟨p,0,none⟩),.bool node] w fun e w'=> ∃v,e= .returned v∧w'.ownsRow w.heap.size 5 1 v 64 ((YD true h0 msg node).map qo)∧Below w.heap.size w w':=by
 have hps:p<w.heap.size:=(Ai hE.1).1;obtain⟨hrow,hown⟩:=hE;have hsum:=jk (yT true) msg;have hhl:=zV (yT true) msg;have hhz:=Yw (n:=bB true) hm;have hst:=ym true hh msg (nbk (bB true) msg.length);have hbk:=jP (yT true) msg;have hout:YD true h0 msg node=qC 8 (Q5 true (stZ true h0 msg (nbk (bB true) msg.length)) (Qp 128 (QO (bB true) msg)) ((bB true*nbk (bB true) msg.length+(QO (bB true) msg).length:Nat):Int) true node) 8:=by rw[hsum];unfold YD;rw[hbk];rfl
 simp only[cond]at hrow;rw[hout];clear hout hbk hh;generalize stZ true h0 msg (nbk (bB true) msg.length)=H1 at*;generalize bB true*nbk (bB true) msg.length=lo1 at*;generalize QO (bB true) msg=hl at*;have hhl':hl.length≤128:=hhl;clear hm hhl;obtain⟨a1,n1,c1,rfl⟩:=qp hown;obtain rfl:n1=hl.length:=yn hown;have hH0:=Qd hown hhz;obtain⟨s1,hs1⟩:=Ex (lo1+hl.length);have hAD:=qbF lo1 hl.length (by omega);have hsl:(s1:Int)<9223372036854775808:=by omega
 have HSL:=hid hsl;rw[hs1]at hAD⊢;have hpz:=QR (n:=128) hhz;have hpl:=Qv (n:=128) hhl';have hPD:=Zl hl (.slice a1 hl.length c1) 128;obtain⟨PZ,hPZ⟩:=Ex (Qp 128 hl);rw[hPZ]at hpz hpl hPD⊢;have hCW:=QA true hst PZ (s1:Nat) true node;have hMX:=qb9 H1 PZ hst;obtain⟨R,hR⟩:=Ex (Q5 true H1 PZ (s1:Nat) true node);have hMX2:=fun(v:Value) (W:World) (h8:Holds8 W v PZ)=>hMX v s1 hsl true node W h8 hpz hpl
 rw[hR]at hCW⊢;simp only[hR]at hMX2;have HAD:=hid hAD;have HPD:=hid hPD;have HMX2:=hid hMX2;have HST:=hid hst;have HCW:=hid hCW;have HROW:=hid hrow;have HH0:=hid hH0;clear hAD hPD hMX hMX2 hst hCW hrow hH0 hown hsum hs1 hPZ hR hpz hpl hhz hsl hlen;have hl4:(hl.length:Int)≤128:=by omega
 go_enter Tryz.func198,Tryz.ntmps198
 go_upto_region 1 with(fail)
 refine QP (fun _ W=>Below w.heap.size w W) 15 [.v 8 (.pointer (some ⟨p,0,none⟩)),.v 9 (.pointer (some ⟨p,0,none⟩)),.v 10 (.pointer (some ⟨p,8,none⟩)),.v 11 (.agg #[.int .u64 (lo1:Nat),.int .u64 0]),.v 12 (.pointer (some ⟨p,0,none⟩)),.v 13 (.pointer (some ⟨p,0,none⟩)),.v 14 (.pointer (some ⟨p,10,none⟩)),.v 15 (.slice a1 hl.length c1),.v 16 (.int .i64 (hl.length:Nat)),.v 17 (.int .u64 (hl.length:Nat)),.v 18 (.tuple #[.agg #[.int .u64 (s1:Nat),.int .u64 0],.bool false]),.v 7 (.tuple #[.agg #[.int .u64 (s1:Nat),.int .u64 0],.bool false]),.v 19 (.agg #[.int .u64 (s1:Nat),.int .u64 0]),.v 20 (.bool false),.p 5 (fun u W=> ∃p',u= .pointer (some ⟨p',0,none⟩)∧w.heap.size≤p'∧ ∃c,W.heap[p']? =some (.cells c 157 (0,0))∧c.size=2),.f none [5] (fun vs W=> ∃p',vs=[.pointer (some ⟨p',0,none⟩)]∧w.heap.size≤p'∧W.heap[p']? =some (.cells #[.int .u64 (s1:Nat),.int .u64 0] 157 (0,0))),.v 6 (.bool false)] (by exact⟨(fun _ _ hb _ h=>by obtain⟨p',e,h3,c,h4,h5⟩:=h;exact⟨p',e,h3,c,qe h4 hb,h5⟩),(fun _ _ hb _ h=>by obtain⟨p',e,h3,h4⟩:=h;exact⟨p',e,h3,qe h4 hb⟩),trivial⟩) Br.drew (fun _ _ _ h hb=>h.trans (hb.mono h.size)) ?_ ?_ ?_
 ·repeat' (with_reducible first|exact qw|refine qu ?_ ?_)
  all_goals try
   refine .inr ?_;intro A x W f hA hR hf hdep D K hK;have a0:=hA.2 0 (by decide);conv at a0=>rhs;whnf
   simp only[QN,Q0]at D;clear hdep hA;first
   | go_simp
     exact hK _ _ BR rfl
   | have y0:IntKind.u64.wrap (hl.length:Int)=(hl.length:Int):=u64_wrap_id _ (by omega) (by omega)
     go_simp
     exact hK _ _ BR rfl
  any_goals exact .inl rfl
  all_goals refine .inr ?_
  ·intro A x W f hA hR hf hdep _ K hK;have g10:=gw hA hdep 2 10;clear hdep hA;have g0:=qe HROW.out hR;refine qZ 157 _ rfl p 8 g10 159 _ #[.int .u64 (lo1:Nat),.int .u64 0] (0,0) _ g0 Tryz.underlying157 rfl (by kernel_rfl) (qbA _ _ _) (hK _ _ Br rfl)
  ·intro A x W f hA hR hf hdep _ K hK;have g14:=gw hA hdep 6 14;clear hdep hA;have g0:=qe HROW.out hR;have c0:W.cell? ⟨p,10,none⟩=some (.slice a1 hl.length c1):=qa g0 10;go_simp
   exact hK _ _ BR rfl
  ·intro A x W f hA hR hf hdep _ K hK;have g11:=gw hA hdep 3 11;have g17:=gw hA hdep 9 17;clear hdep hA;go_simp
   refine(HAD.out _).mono ?_;rintro e w' ⟨rfl,hb⟩;exact hK _ _ hb rfl
  ·intro A x W f hA hR hf hdep _ K hK;clear hdep hA;go_simp
   exact hK _ _ (Br.alloc Nl _) ⟨W.heap.size,rfl,hR.size,_,Wn W _,rfl⟩
 ·intro A x W hA hR hdep K hK;have g5:(fun u W=> ∃p',u= .pointer (some ⟨p',0,none⟩)∧w.heap.size≤p'∧ ∃c,W.heap[p']? =some (.cells c 157 (0,0))∧c.size=2) (x 5) W:=hdep ⟨14,.data⟩ (by simp) rfl;have a5:A.tmps.getD 5 undef=x 5:=hA.1 5 (by decide);have g19:=gw hA hdep 12 19;clear hdep hA;obtain⟨p',e5,hp1,c,hp2,hp3⟩:=g5;refine wp_store_row 157 _ _ rfl p' #[.int .u64 (s1:Nat),.int .u64 0] (a5.trans e5) g19 157 c hp2 (by kernel_rfl) (by rw[hp3];rfl) (by simp[Value.oneCell']) ?_;have hb':Below w.heap.size w (W.setRow p' #[.int .u64 (s1:Nat),.int .u64 0]):=below_setRow hR hp1 _;refine hK _ _ (fun _=>rfl) hb' ⟨.inr (fun _ h=>h),.inr (fun _ h=>h),.inr (fun _ h=>h),.inr (fun _ h=>h),.inr (fun _ h=>h),.inr (fun _ h=>h),.inr (fun _ h=>h),.inr (fun _ h=>h),.inr (fun _ h=>h),.inr (fun _ h=>h),.inr (fun _ h=>h),.inr (fun _ h=>h),.inr (fun _ h=>h),.inr (fun _ h=>h),.inr (fun u h=>?_),.inl rfl,.inr (fun _ h=>h),trivial⟩ ⟨p',by simp[e5],hp1,setRow_heap _ _ _ _ _ _ hp2⟩;obtain⟨q,e,q1,c',q2,q3⟩:=h;refine⟨q,e,q1,?_⟩;by_cases hq:q=p'
  ·subst hq;exact⟨_,setRow_heap _ _ _ _ _ _ hp2,rfl⟩
  ·exact⟨c',(setRow_other _ _ _ _ hq).trans q2,q3⟩
 intro x W hR hall;obtain⟨e5,es15, -⟩:=hall;change (fun u W=> ∃p',u= .pointer (some ⟨p',0,none⟩)∧w.heap.size≤p'∧ ∃c,W.heap[p']? =some (.cells c 157 (0,0))∧c.size=2) (x 5) W at e5
 obtain⟨pc,e5,hpc, -⟩:=e5;obtain⟨pc',e5',hpc',hrc⟩:=es15;simp only[List.map_cons,List.map_nil,e5,List.cons.injEq,Value.pointer.injEq,Option.some.injEq,Addr.mk.injEq,and_true]at e5';obtain rfl:=e5';simp only[Qw,Act.put,Ls,e5];clear e5;have hr2:=qe HROW.out hR;have hH2:=HH0.out.below hR;have HR2:=hid hr2;have HH2:=hid hH2;have HRC:=hid hrc;have HB2:=hid hR;have hps2:p<W.heap.size:=(Ai hr2).1;have hpcs:pc<W.heap.size:=(Ai hrc).1;have hs12:w.heap.size≤W.heap.size:=hR.size;clear hr2 hH2 hrc hR x hpc hpc';generalize W=W2 at*;go_upto_region 2 with(fail)
 refine qy (n:=26) (w0:=W2) (B:=W2.heap.size) [.v 21 (.pointer (some ⟨p,0,none⟩)),.v 22 (.pointer (some ⟨p,0,none⟩)),.v 23 (.pointer (some ⟨p,13,none⟩)),.v 24 (.func (.func 89) #[] #[]),.v 25 (.pointer (some ⟨p,0,none⟩)),.v 26 (.pointer (some ⟨p,0,none⟩)),.v 27 (.pointer (some ⟨p,12,none⟩)),.v 28 (.func (.func 88) #[] #[]),.v 29 (.pointer (some ⟨p,0,none⟩)),.v 30 (.pointer (some ⟨p,0,none⟩)),.v 31 (.pointer (some ⟨p,0,none⟩)),.v 32 (.agg (qh .u64 H1)),.v 33 (.pointer (some ⟨p,0,none⟩)),.v 34 (.pointer (some ⟨p,0,none⟩)),.v 35 (.pointer (some ⟨p,10,none⟩)),.v 36 (.slice a1 hl.length c1),.v 37 (.pointer (some ⟨p,0,none⟩)),.v 38 (.pointer (some ⟨p,0,none⟩)),.v 39 (.pointer (some ⟨p,11,none⟩)),.v 40 (.int .i64 128),.p 41 (fun u W=>W.ownsRow W2.heap.size 5 1 u 128 (PZ.map qo)),.v 42 (.agg #[.int .u64 (s1:Nat),.int .u64 0]),.v 43 (.bool node),.v 44 (.agg (qh .u64 R)),.p 45 (fun u W=>W.ownsRow W2.heap.size 5 1 u 64 ((qC 8 R 8).map qo)),.p 4 (fun u W=>W.ownsRow W2.heap.size 5 1 u 64 ((qC 8 R 8).map qo))] (by exact⟨(fun _ _ _ h hb=>qf h (fun g _ hg=>hb.block g hg)),(fun _ _ _ h hb=>qf h (fun g _ hg=>hb.block g hg)),(fun _ _ _ h hb=>qf h (fun g _ hg=>hb.block g hg)),trivial⟩) Br.drew Nl ?_ ?_
 ·repeat' (with_reducible first|exact qw|refine qu ?_ ?_)
  all_goals try
   intro A x W hA hW hBW hdep D K hK;have a0:=hA.2 0 (by decide);conv at a0=>rhs;whnf
   have a1:=hA.2 1 (by decide);conv at a1=>rhs;whnf
   simp only[QN,Q0]at D;clear hdep hA;go_simp
   exact hK _ _ BR rfl
  ·intro A x W hA hW hBW hdep _ K hK;have g23:=gv hA hdep 2 23;clear hdep hA;have g0:=qe HR2.out hW;have c0:W.cell? ⟨p,13,none⟩=some (.func (.func 89) #[] #[]):=qa g0 13;go_simp
   exact hK _ _ BR rfl
  ·intro A x W hA hW hBW hdep _ K hK;have g27:=gv hA hdep 6 27;clear hdep hA;have g0:=qe HR2.out hW;have c0:W.cell? ⟨p,12,none⟩=some (.func (.func 88) #[] #[]):=qa g0 12;go_simp
   exact hK _ _ BR rfl
  ·intro A x W hA hW hBW hdep _ K hK;have g31:=gv hA hdep 10 31;clear hdep hA;have g0:=qe HR2.out hW;refine qZ 150 _ rfl p 0 g31 159 _ (qh .u64 H1) (0,0) _ g0 Tryz.underlying150 rfl (by rw[qd,HST.out.1];kernel_rfl) (qfn HST.out _ _) (hK _ _ Br rfl)
  ·intro A x W hA hW hBW hdep _ K hK;have g35:=gv hA hdep 14 35;clear hdep hA;have g0:=qe HR2.out hW;have c0:W.cell? ⟨p,10,none⟩=some (.slice a1 hl.length c1):=qa g0 10;go_simp
   exact hK _ _ BR rfl
  ·intro A x W hA hW hBW hdep _ K hK;have g39:=gv hA hdep 18 39;clear hdep hA;have g0:=qe HR2.out hW;have c0:W.cell? ⟨p,11,none⟩=some (.int .i64 128):=qa g0 11;go_simp
   exact hK _ _ BR rfl
  ·intro A x W hA hW hBW hdep _ K hK;have g36:=gv hA hdep 15 36;have g40:=gv hA hdep 19 40;clear hdep hA;go_simp
   refine(HPD.out _ (HH2.out.below hW) hhl' (by decide)).mono ?_;rintro e w' ⟨u,rfl,ho,hb⟩;exact hK _ _ hb (ownsRow_le ho hBW)
  ·intro A x W hA hW hBW hdep _ K hK;have a5:=hA.2 5 (by decide);conv at a5=>rhs;whnf
   clear hdep hA;have g0:=qe HRC.out hW;refine wp_load_row 157 _ rfl pc a5 _ _ _ _ g0 Tryz.underlying157 rfl (by kernel_rfl) (hK _ _ Br rfl)
  ·intro A x W hA hW hBW hdep _ K hK;have g28:=gv hA hdep 7 28;have g32:=gv hA hdep 11 32;have g41:(fun u W=>W.ownsRow W2.heap.size 5 1 u 128 (PZ.map qo)) (x 41) W:=hdep ⟨20,.data⟩ (by simp) rfl _ rfl;have a41:A.tmps.getD 41 undef=x 41:=hA.1 41 (by decide);have g42:=gv hA hdep 21 42;have g43:=gv hA hdep 22 43;clear hdep hA;go_simp
   refine(HMX2.out _ _ (QK g41)).mono ?_;rintro e w' ⟨rfl,hb⟩;exact hK _ _ hb rfl
  ·intro A x W hA hW hBW hdep _ K hK;have g24:=gv hA hdep 3 24;have g44:=gv hA hdep 23 44;clear hdep hA;go_simp
   refine(qds R HCW.out _).mono ?_;rintro e w' ⟨u,rfl,ho,hb⟩;exact hK _ _ hb (ownsRow_le ho hBW)
  ·intro A x W hA hW hBW hdep _ K hK;have g45:(fun u W=>W.ownsRow W2.heap.size 5 1 u 64 ((qC 8 R 8).map qo)) (x 45) W:=hdep ⟨24,.data⟩ (by simp) rfl _ rfl;have a45:A.tmps.getD 45 undef=x 45:=hA.1 45 (by decide);clear hdep hA;go_simp
   exact hK _ _ Br (a45▸g45)
 intro x W hW hBW hall;obtain⟨e41,e45,e4, -⟩:=hall;change (fun u W=>W.ownsRow W2.heap.size 5 1 u 128 (PZ.map qo)) (x 41) W at e41
 change (fun u W=>W.ownsRow W2.heap.size 5 1 u 64 ((qC 8 R 8).map qo)) (x 45) W at e45
 change (fun u W=>W.ownsRow W2.heap.size 5 1 u 64 ((qC 8 R 8).map qo)) (x 4) W at e4
 refine qt ?_;simp only[Qw,Act.put,Ls];have hB3:=HB2.out.trans (hW.mono hs12);have E4:=hid (ownsRow_le e4 hs12);clear e41 e45 e4 hW hBW;go_wp2
 go_ret
 exact⟨_,rfl,E4.out,hB3⟩
theorem qef (h0 msg:List Int)(node:Bool)(hh:Words 32 8 h0)(hm: ∀z∈msg,0≤z∧z≤255)(p:Nat)(hv:Value)(w:World)(hE:QE false w p hv h0 msg)(hlen:(msg.length:Int)≤281474976710656):
  Calls Tryz.prog 204 #[.pointer (some ⟨p,0,none⟩),.bool node] w fun e w'=> ∃v,e= .returned v∧w'.ownsRow w.heap.size 5 1 v 32 ((YD false h0 msg node).map qo)∧Below w.heap.size w w':=by
 have hps:p<w.heap.size:=(Ai hE.1).1;obtain⟨hrow,hown⟩:=hE;have hsum:=jk (yT false) msg;have hhl:=zV (yT false) msg;have hhz:=Yw (n:=bB false) hm;have hst:=ym false hh msg (nbk (bB false) msg.length);have hbk:=jP (yT false) msg;have hout:YD false h0 msg node=qC 4 (Q5 false (stZ false h0 msg (nbk (bB false) msg.length)) (Qp 64 (QO (bB false) msg)) ((bB false*nbk (bB false) msg.length+(QO (bB false) msg).length:Nat):Int) true node) 8:=by rw[hsum];unfold YD;rw[hbk];rfl
 simp only[cond]at hrow;rw[hout];clear hout hbk hh;generalize stZ false h0 msg (nbk (bB false) msg.length)=H1 at*;generalize bB false*nbk (bB false) msg.length=lo1 at*;generalize QO (bB false) msg=hl at*;have hhl':hl.length≤64:=hhl;clear hm hhl;obtain⟨a1,n1,c1,rfl⟩:=qp hown;obtain rfl:n1=hl.length:=yn hown;have hH0:=Qd hown hhz;obtain⟨s1,hs1⟩:=Ex (lo1+hl.length);have hAD:=qbF lo1 hl.length (by omega);have hsl:(s1:Int)<9223372036854775808:=by omega
 have HSL:=hid hsl;rw[hs1]at hAD⊢;have hpz:=QR (n:=64) hhz;have hpl:=Qv (n:=64) hhl';have hPD:=Zl hl (.slice a1 hl.length c1) 64;obtain⟨PZ,hPZ⟩:=Ex (Qp 64 hl);rw[hPZ]at hpz hpl hPD⊢;have hCW:=QA false hst PZ (s1:Nat) true node;have hMX:=qaP H1 PZ hst;obtain⟨R,hR⟩:=Ex (Q5 false H1 PZ (s1:Nat) true node);have hMX2:=fun(v:Value) (W:World) (h8:Holds8 W v PZ)=>hMX v s1 hsl true node W h8 hpz hpl
 rw[hR]at hCW⊢;simp only[hR]at hMX2;have HAD:=hid hAD;have HPD:=hid hPD;have HMX2:=hid hMX2;have HST:=hid hst;have HCW:=hid hCW;have HROW:=hid hrow;have HH0:=hid hH0;clear hAD hPD hMX hMX2 hst hCW hrow hH0 hown hsum hs1 hPZ hR hpz hpl hhz hsl hlen;have hl4:(hl.length:Int)≤64:=by omega
 go_enter Tryz.func204,Tryz.ntmps204
 go_upto_region 1 with(fail)
 refine QP (fun _ W=>Below w.heap.size w W) 15 [.v 8 (.pointer (some ⟨p,0,none⟩)),.v 9 (.pointer (some ⟨p,0,none⟩)),.v 10 (.pointer (some ⟨p,8,none⟩)),.v 11 (.agg #[.int .u64 (lo1:Nat),.int .u64 0]),.v 12 (.pointer (some ⟨p,0,none⟩)),.v 13 (.pointer (some ⟨p,0,none⟩)),.v 14 (.pointer (some ⟨p,10,none⟩)),.v 15 (.slice a1 hl.length c1),.v 16 (.int .i64 (hl.length:Nat)),.v 17 (.int .u64 (hl.length:Nat)),.v 18 (.tuple #[.agg #[.int .u64 (s1:Nat),.int .u64 0],.bool false]),.v 7 (.tuple #[.agg #[.int .u64 (s1:Nat),.int .u64 0],.bool false]),.v 19 (.agg #[.int .u64 (s1:Nat),.int .u64 0]),.v 20 (.bool false),.p 5 (fun u W=> ∃p',u= .pointer (some ⟨p',0,none⟩)∧w.heap.size≤p'∧ ∃c,W.heap[p']? =some (.cells c 157 (0,0))∧c.size=2),.f none [5] (fun vs W=> ∃p',vs=[.pointer (some ⟨p',0,none⟩)]∧w.heap.size≤p'∧W.heap[p']? =some (.cells #[.int .u64 (s1:Nat),.int .u64 0] 157 (0,0))),.v 6 (.bool false)] (by exact⟨(fun _ _ hb _ h=>by obtain⟨p',e,h3,c,h4,h5⟩:=h;exact⟨p',e,h3,c,qe h4 hb,h5⟩),(fun _ _ hb _ h=>by obtain⟨p',e,h3,h4⟩:=h;exact⟨p',e,h3,qe h4 hb⟩),trivial⟩) Br.drew (fun _ _ _ h hb=>h.trans (hb.mono h.size)) ?_ ?_ ?_
 ·repeat' (with_reducible first|exact qw|refine qu ?_ ?_)
  all_goals try
   refine .inr ?_;intro A x W f hA hR hf hdep D K hK;have a0:=hA.2 0 (by decide);conv at a0=>rhs;whnf
   simp only[QN,Q0]at D;clear hdep hA;first
   | go_simp
     exact hK _ _ BR rfl
   | have y0:IntKind.u64.wrap (hl.length:Int)=(hl.length:Int):=u64_wrap_id _ (by omega) (by omega)
     go_simp
     exact hK _ _ BR rfl
  any_goals exact .inl rfl
  all_goals refine .inr ?_
  ·intro A x W f hA hR hf hdep _ K hK;have g10:=gw hA hdep 2 10;clear hdep hA;have g0:=qe HROW.out hR;refine qZ 157 _ rfl p 8 g10 167 _ #[.int .u64 (lo1:Nat),.int .u64 0] (0,0) _ g0 Tryz.underlying157 rfl (by kernel_rfl) (qbz _ _ _) (hK _ _ Br rfl)
  ·intro A x W f hA hR hf hdep _ K hK;have g14:=gw hA hdep 6 14;clear hdep hA;have g0:=qe HROW.out hR;have c0:W.cell? ⟨p,10,none⟩=some (.slice a1 hl.length c1):=qa g0 10;go_simp
   exact hK _ _ BR rfl
  ·intro A x W f hA hR hf hdep _ K hK;have g11:=gw hA hdep 3 11;have g17:=gw hA hdep 9 17;clear hdep hA;go_simp
   refine(HAD.out _).mono ?_;rintro e w' ⟨rfl,hb⟩;exact hK _ _ hb rfl
  ·intro A x W f hA hR hf hdep _ K hK;clear hdep hA;go_simp
   exact hK _ _ (Br.alloc Nl _) ⟨W.heap.size,rfl,hR.size,_,Wn W _,rfl⟩
 ·intro A x W hA hR hdep K hK;have g5:(fun u W=> ∃p',u= .pointer (some ⟨p',0,none⟩)∧w.heap.size≤p'∧ ∃c,W.heap[p']? =some (.cells c 157 (0,0))∧c.size=2) (x 5) W:=hdep ⟨14,.data⟩ (by simp) rfl;have a5:A.tmps.getD 5 undef=x 5:=hA.1 5 (by decide);have g19:=gw hA hdep 12 19;clear hdep hA;obtain⟨p',e5,hp1,c,hp2,hp3⟩:=g5;refine wp_store_row 157 _ _ rfl p' #[.int .u64 (s1:Nat),.int .u64 0] (a5.trans e5) g19 157 c hp2 (by kernel_rfl) (by rw[hp3];rfl) (by simp[Value.oneCell']) ?_;have hb':Below w.heap.size w (W.setRow p' #[.int .u64 (s1:Nat),.int .u64 0]):=below_setRow hR hp1 _;refine hK _ _ (fun _=>rfl) hb' ⟨.inr (fun _ h=>h),.inr (fun _ h=>h),.inr (fun _ h=>h),.inr (fun _ h=>h),.inr (fun _ h=>h),.inr (fun _ h=>h),.inr (fun _ h=>h),.inr (fun _ h=>h),.inr (fun _ h=>h),.inr (fun _ h=>h),.inr (fun _ h=>h),.inr (fun _ h=>h),.inr (fun _ h=>h),.inr (fun _ h=>h),.inr (fun u h=>?_),.inl rfl,.inr (fun _ h=>h),trivial⟩ ⟨p',by simp[e5],hp1,setRow_heap _ _ _ _ _ _ hp2⟩;obtain⟨q,e,q1,c',q2,q3⟩:=h;refine⟨q,e,q1,?_⟩;by_cases hq:q=p'
  ·subst hq;exact⟨_,setRow_heap _ _ _ _ _ _ hp2,rfl⟩
  ·exact⟨c',(setRow_other _ _ _ _ hq).trans q2,q3⟩
 intro x W hR hall;obtain⟨e5,es15, -⟩:=hall;change (fun u W=> ∃p',u= .pointer (some ⟨p',0,none⟩)∧w.heap.size≤p'∧ ∃c,W.heap[p']? =some (.cells c 157 (0,0))∧c.size=2) (x 5) W at e5
 obtain⟨pc,e5,hpc, -⟩:=e5;obtain⟨pc',e5',hpc',hrc⟩:=es15;simp only[List.map_cons,List.map_nil,e5,List.cons.injEq,Value.pointer.injEq,Option.some.injEq,Addr.mk.injEq,and_true]at e5';obtain rfl:=e5';simp only[Qw,Act.put,Ls,e5];clear e5;have hr2:=qe HROW.out hR;have hH2:=HH0.out.below hR;have HR2:=hid hr2;have HH2:=hid hH2;have HRC:=hid hrc;have HB2:=hid hR;have hps2:p<W.heap.size:=(Ai hr2).1;have hpcs:pc<W.heap.size:=(Ai hrc).1;have hs12:w.heap.size≤W.heap.size:=hR.size;clear hr2 hH2 hrc hR x hpc hpc';generalize W=W2 at*;go_upto_region 2 with(fail)
 refine qy (n:=26) (w0:=W2) (B:=W2.heap.size) [.v 21 (.pointer (some ⟨p,0,none⟩)),.v 22 (.pointer (some ⟨p,0,none⟩)),.v 23 (.pointer (some ⟨p,13,none⟩)),.v 24 (.func (.func 92) #[] #[]),.v 25 (.pointer (some ⟨p,0,none⟩)),.v 26 (.pointer (some ⟨p,0,none⟩)),.v 27 (.pointer (some ⟨p,12,none⟩)),.v 28 (.func (.func 91) #[] #[]),.v 29 (.pointer (some ⟨p,0,none⟩)),.v 30 (.pointer (some ⟨p,0,none⟩)),.v 31 (.pointer (some ⟨p,0,none⟩)),.v 32 (.agg (qh .u32 H1)),.v 33 (.pointer (some ⟨p,0,none⟩)),.v 34 (.pointer (some ⟨p,0,none⟩)),.v 35 (.pointer (some ⟨p,10,none⟩)),.v 36 (.slice a1 hl.length c1),.v 37 (.pointer (some ⟨p,0,none⟩)),.v 38 (.pointer (some ⟨p,0,none⟩)),.v 39 (.pointer (some ⟨p,11,none⟩)),.v 40 (.int .i64 64),.p 41 (fun u W=>W.ownsRow W2.heap.size 5 1 u 64 (PZ.map qo)),.v 42 (.agg #[.int .u64 (s1:Nat),.int .u64 0]),.v 43 (.bool node),.v 44 (.agg (qh .u32 R)),.p 45 (fun u W=>W.ownsRow W2.heap.size 5 1 u 32 ((qC 4 R 8).map qo)),.p 4 (fun u W=>W.ownsRow W2.heap.size 5 1 u 32 ((qC 4 R 8).map qo))] (by exact⟨(fun _ _ _ h hb=>qf h (fun g _ hg=>hb.block g hg)),(fun _ _ _ h hb=>qf h (fun g _ hg=>hb.block g hg)),(fun _ _ _ h hb=>qf h (fun g _ hg=>hb.block g hg)),trivial⟩) Br.drew Nl ?_ ?_
 ·repeat' (with_reducible first|exact qw|refine qu ?_ ?_)
  all_goals try
   intro A x W hA hW hBW hdep D K hK;have a0:=hA.2 0 (by decide);conv at a0=>rhs;whnf
   have a1:=hA.2 1 (by decide);conv at a1=>rhs;whnf
   simp only[QN,Q0]at D;clear hdep hA;go_simp
   exact hK _ _ BR rfl
  ·intro A x W hA hW hBW hdep _ K hK;have g23:=gv hA hdep 2 23;clear hdep hA;have g0:=qe HR2.out hW;have c0:W.cell? ⟨p,13,none⟩=some (.func (.func 92) #[] #[]):=qa g0 13;go_simp
   exact hK _ _ BR rfl
  ·intro A x W hA hW hBW hdep _ K hK;have g27:=gv hA hdep 6 27;clear hdep hA;have g0:=qe HR2.out hW;have c0:W.cell? ⟨p,12,none⟩=some (.func (.func 91) #[] #[]):=qa g0 12;go_simp
   exact hK _ _ BR rfl
  ·intro A x W hA hW hBW hdep _ K hK;have g31:=gv hA hdep 10 31;clear hdep hA;have g0:=qe HR2.out hW;refine qZ 160 _ rfl p 0 g31 167 _ (qh .u32 H1) (0,0) _ g0 Tryz.underlying160 rfl (by rw[qd,HST.out.1];kernel_rfl) (qfm HST.out _ _) (hK _ _ Br rfl)
  ·intro A x W hA hW hBW hdep _ K hK;have g35:=gv hA hdep 14 35;clear hdep hA;have g0:=qe HR2.out hW;have c0:W.cell? ⟨p,10,none⟩=some (.slice a1 hl.length c1):=qa g0 10;go_simp
   exact hK _ _ BR rfl
  ·intro A x W hA hW hBW hdep _ K hK;have g39:=gv hA hdep 18 39;clear hdep hA;have g0:=qe HR2.out hW;have c0:W.cell? ⟨p,11,none⟩=some (.int .i64 64):=qa g0 11;go_simp
   exact hK _ _ BR rfl
  ·intro A x W hA hW hBW hdep _ K hK;have g36:=gv hA hdep 15 36;have g40:=gv hA hdep 19 40;clear hdep hA;go_simp
   refine(HPD.out _ (HH2.out.below hW) hhl' (by decide)).mono ?_;rintro e w' ⟨u,rfl,ho,hb⟩;exact hK _ _ hb (ownsRow_le ho hBW)
  ·intro A x W hA hW hBW hdep _ K hK;have a5:=hA.2 5 (by decide);conv at a5=>rhs;whnf
   clear hdep hA;have g0:=qe HRC.out hW;refine wp_load_row 157 _ rfl pc a5 _ _ _ _ g0 Tryz.underlying157 rfl (by kernel_rfl) (hK _ _ Br rfl)
  ·intro A x W hA hW hBW hdep _ K hK;have g28:=gv hA hdep 7 28;have g32:=gv hA hdep 11 32;have g41:(fun u W=>W.ownsRow W2.heap.size 5 1 u 64 (PZ.map qo)) (x 41) W:=hdep ⟨20,.data⟩ (by simp) rfl _ rfl;have a41:A.tmps.getD 41 undef=x 41:=hA.1 41 (by decide);have g42:=gv hA hdep 21 42;have g43:=gv hA hdep 22 43;clear hdep hA;go_simp
   refine(HMX2.out _ _ (QK g41)).mono ?_;rintro e w' ⟨rfl,hb⟩;exact hK _ _ hb rfl
  ·intro A x W hA hW hBW hdep _ K hK;have g24:=gv hA hdep 3 24;have g44:=gv hA hdep 23 44;clear hdep hA;go_simp
   refine(qdt R HCW.out _).mono ?_;rintro e w' ⟨u,rfl,ho,hb⟩;exact hK _ _ hb (ownsRow_le ho hBW)
  ·intro A x W hA hW hBW hdep _ K hK;have g45:(fun u W=>W.ownsRow W2.heap.size 5 1 u 32 ((qC 4 R 8).map qo)) (x 45) W:=hdep ⟨24,.data⟩ (by simp) rfl _ rfl;have a45:A.tmps.getD 45 undef=x 45:=hA.1 45 (by decide);clear hdep hA;go_simp
   exact hK _ _ Br (a45▸g45)
 intro x W hW hBW hall;obtain⟨e41,e45,e4, -⟩:=hall;change (fun u W=>W.ownsRow W2.heap.size 5 1 u 64 (PZ.map qo)) (x 41) W at e41
 change (fun u W=>W.ownsRow W2.heap.size 5 1 u 32 ((qC 4 R 8).map qo)) (x 45) W at e45
 change (fun u W=>W.ownsRow W2.heap.size 5 1 u 32 ((qC 4 R 8).map qo)) (x 4) W at e4
 refine qt ?_;simp only[Qw,Act.put,Ls];have hB3:=HB2.out.trans (hW.mono hs12);have E4:=hid (ownsRow_le e4 hs12);clear e41 e45 e4 hW hBW;go_wp2
 go_ret
 exact⟨_,rfl,E4.out,hB3⟩
def QS (kind dg:Int)(bv kv:Value)(last:Bool)(wr:Int)(e:Value):Array Value:= #[.int .i64 kind,.int .i64 dg,bv,kv,.bool last,.int .u64 wr,e]
def phT (big:Bool):TypeId:=cond big 153 163
theorem Hold.of_len {w:World}{a:Option Addr}{n c:Nat}{zs:List Int}(h:Hold w (.slice a n c) zs):n=zs.length:=by
 obtain⟨a',c',e, -⟩:=h.slice;simp only[Value.slice.injEq]at e;exact e.2.1
theorem yN {w:World}{v:Value}{zs:List Int}{b:Nat}(h:Hold w v zs)(hne:zs≠[])(hb:v.ownBlock=some b):b<w.heap.size:=by
 rcases h.2 with⟨h2, -⟩|⟨ad,cap,rfl, -, -,h3⟩
 ·exact absurd h2 hne
 ·obtain⟨b',off,rfl,h3, -⟩:=h3.resolve_left hne;simp only[Value.ownBlock,Option.some.injEq]at hb;subst hb;exact h3
theorem qe7 {W:World}{np:Nat}{kind dg:Int}{bv kv:Value}{la:Bool}{wr:Int}{e v:Value}{T:TypeId}(h:W.heap[np]? =some (.cells (QS kind dg bv kv la wr e) T (0,0))):(W.setCell ⟨np,6,none⟩ v).heap[np]? =some (.cells (QS kind dg bv kv la wr v) T (0,0)):=heap_setCell_same W np 6 _ _ v h
theorem Zo {W:World}{np:Nat}{kind dg:Int}{bv kv:Value}{la b:Bool}{wr:Int}{e:Value}{T:TypeId}(h:W.heap[np]? =some (.cells (QS kind dg bv kv la wr e) T (0,0))):(W.setCell ⟨np,4,none⟩ (.bool b)).heap[np]? =some (.cells (QS kind dg bv kv b wr e) T (0,0)):=heap_setCell_same W np 4 _ _ _ h
theorem qdG {W:World}{np:Nat}{kind dg:Int}{bv kv:Value}{la:Bool}{wr x:Int}{e:Value}{T:TypeId}(h:W.heap[np]? =some (.cells (QS kind dg bv kv la wr e) T (0,0))):(W.setCell ⟨np,5,none⟩ (.int .u64 x)).heap[np]? =some (.cells (QS kind dg bv kv la x e) T (0,0)):=heap_setCell_same W np 5 _ _ _ h
theorem Ju {big:Bool}{W:World}{p:Nat}{h0:List Int}(h:W.heap[p]? =some (.cells (cond big YH YG h0 0 (.slice none 0 0)) (cond big 159 167) (0,0))):QE big W p (.slice none 0 0) h0 []:=by
 have e:QO (bB big) []=[]:=by simp[QO]
 refine⟨?_,by rw[e];exact Wo _ _ _ _⟩;simpa [qb6,stZ] using h
theorem ye {big:Bool}{W W':World}{p:Nat}{hv:Value}{h0 msg:List Int}(h:QE big W p hv h0 msg)(hb:Below W.heap.size W W'):QE big W' p hv h0 msg:=
 ⟨qe h.1 hb,qf h.2 (fun g _ hg=>hb.block g hg)⟩
theorem JP {W:World}{B n b:Nat}{e:TypeId}{v:Value}{xs:List Value}(h:W.ownsRow B e 1 v n xs)(hb:v.ownBlock=some b):B≤b:=by
 rcases h.2 with⟨rfl, -⟩|⟨g,cap,cur,rfl,h1, -⟩
 ·cases hb
 ·simp only[Value.ownBlock,Option.some.injEq]at hb;omega
theorem yE {P:Program}{o:Oper}{a:Act}{K:Act→World→Prop}{Q:Exit→Act→World→Prop}{n:Nat}{T:TypeId}{x:Value}{name:String}{W:World}{f:FuncId}{g:FuncId×Value→World→Result Next}(hm:(method n T x name).run P W= .ok (f,x) W)(h:Oper.upon P o a K Q (g (f,x) W)):Oper.upon P o a K Q (((method n T x name).run P W).andThen g):=by
 rw[hm];exact h
theorem qdw (bs kz:List Int)(np:Nat)(dg wr:Int)(la:Bool)(bv kv e0:Value)(w:World)(hrow:w.heap[np]? =some (.cells (QS 1 dg bv kv la wr e0) 80 (0,0)))(hB:Hold w bv bs)(hK:Hold w kv kz)(hl:bs.length=64)(hkl:kz.length≤64)(hkn:kv.ownBlock≠some np):
  Calls Tryz.prog 55 #[.pointer (some ⟨np,0,none⟩)] w fun e w'=>e= .returned (.tuple #[])∧(∃p hv,w.heap.size≤p∧w'.heap[np]? =some (.cells (QS 1 dg bv kv false 0 (.iface 153 (.pointer (some ⟨p,0,none⟩)))) 80 (0,0))∧QE true w' p hv (h0Z true bs) (QY 128 kz)∧(∀g,hv.ownBlock=some g→w.heap.size≤g))∧Spare (fun k=>k≠np) w w':=by
 have hnp:np<w.heap.size:=(Ai hrow).1;obtain⟨kn,kc,ka,rfl⟩: ∃n c a,kv= .slice a n c:=by obtain⟨a,c,e, -⟩:=hK.slice;exact⟨_,_,_,e⟩
 obtain rfl:kn=kz.length:=hK.of_len;have HROW:=hid hrow;have HB:=hid hB;have HK:=hid hK;have HL:=hid hl;have HKN:=hid hkn;clear hrow hB hK hl hkn;go_enter Tryz.func55,Tryz.ntmps55
 go_upto_region 0 with(fail)
 refine qy (n:=10) (w0:=w) (B:=w.heap.size) [.v 2 (.pointer (some ⟨np,0,none⟩)),.v 3 (.pointer (some ⟨np,0,none⟩)),.v 4 (.pointer (some ⟨np,0,none⟩)),.v 5 (.pointer (some ⟨np,0,none⟩)),.v 6 (.int .i64 1),.v 7 (.pointer (some ⟨np,0,none⟩)),.v 8 (.pointer (some ⟨np,0,none⟩)),.v 9 (.pointer (some ⟨np,2,none⟩)),.v 10 bv,.p 11 (fun u W=> ∃p,u= .iface 153 (.pointer (some ⟨p,0,none⟩))∧w.heap.size≤p∧W.heap[p]? =some (.cells (YH (h0Z true bs) 0 (.slice none 0 0)) 159 (0,0)))] (by exact⟨(fun _ _ _ h hb=>by obtain⟨p,e,h3,h4⟩:=h;exact⟨p,e,h3,qe h4 hb⟩),trivial⟩) Br.drew Nl ?_ ?_
 ·repeat' (with_reducible first|exact qw|refine qu ?_ ?_)
  all_goals try
   intro A x W hA hW hBW hdep D K hK;have a0:=hA.2 0 (by decide);conv at a0=>rhs;whnf
   simp only[QN,Q0]at D;clear hdep hA;go_simp
   exact hK _ _ BR rfl
  ·intro A x W hA hW hBW hdep _ K hK;have g5:=gv hA hdep 3 5;clear hdep hA;have g0:=qe HROW.out hW;have c0:W.cell? ⟨np,0,none⟩=some (.int .i64 1):=qa g0 0;go_simp
   exact hK _ _ BR rfl
  ·intro A x W hA hW hBW hdep _ K hK;have g9:=gv hA hdep 7 9;clear hdep hA;have g0:=qe HROW.out hW;have c0:W.cell? ⟨np,2,none⟩=some bv:=qa g0 2;go_simp
   exact hK _ _ BR rfl
  ·intro A x W hA hW hBW hdep _ K hK;have g6:=gv hA hdep 4 6;have g10:=gv hA hdep 8 10;clear hdep hA;go_simp
   refine(qdv bs bv _ (HB.out.holds8.mono_below hW Nl) HB.out.1 HL.out).mono ?_;rintro e w' ⟨p,rfl,h1,h2,hb⟩;exact hK _ _ hb ⟨p,rfl,Nat.le_trans hBW h1,h2⟩
 intro x W hW hBW hall;obtain⟨e11, -⟩:=hall;change (fun u W=> ∃p,u= .iface 153 (.pointer (some ⟨p,0,none⟩))∧w.heap.size≤p∧W.heap[p]? =some (.cells (YH (h0Z true bs) 0 (.slice none 0 0)) 159 (0,0))) (x 11) W at e11
 obtain⟨p,e11,hp1,hp2⟩:=e11;refine qn ?_;simp only[Qw,Act.put,Ls,e11];clear e11;have hr1:=qe HROW.out hW;have HP2:=hid hp2;have HR1:=hid hr1;have HW:=hid hW;have hnp1:np<W.heap.size:=(Ai hr1).1;have c6:W.cell? ⟨np,6,none⟩=some e0:=qa hr1 6;have f6:=frozen_of_row W np 6 _ _ hr1;clear hp2 hr1 hW hBW x;go_wp2_with fail
 refine qn ?_;go_wp2_with fail
 refine qn ?_;go_wp2_with fail
 refine qt ?_;have hrA:=qe7 (v:= .iface 153 (.pointer (some ⟨p,0,none⟩))) HR1.out;have hbA:Spare (fun k=>k≠np) w (W.setCell ⟨np,6,none⟩ (.iface 153 (.pointer (some ⟨p,0,none⟩)))):=(Spare.of_below _ HW.out).trans (Spare.of_but ((But.refl np W).set 6 _)) (fun _ _ h=>h);have hpA:(W.setCell ⟨np,6,none⟩ (.iface 153 (.pointer (some ⟨p,0,none⟩)))).heap[p]? =some (.cells (YH (h0Z true bs) 0 (.slice none 0 0)) 159 (0,0)):=(heap_setCell_other W _ _ _ (by show p≠np;omega)).trans HP2.out;generalize W.setCell ⟨np,6,none⟩ (.iface 153 (.pointer (some ⟨p,0,none⟩)))=WA at*;clear HW HR1 HP2 c6 f6 hnp1 W;have c4:WA.cell? ⟨np,4,none⟩=some (.bool la):=qa hrA 4;have f4:=frozen_of_row WA np 4 _ _ hrA;have hnpA:np<WA.heap.size:=(Ai hrA).1;have HRA:=hid hrA;have HBA:=hid hbA;have HPA:=hid hpA;clear hrA hbA hpA;go_upto_region 2 with(fail)
 have hrA:=Zo (b:=false) HRA.out;have hbA:Spare (fun k=>k≠np) w (WA.setCell ⟨np,4,none⟩ (.bool false)):=HBA.out.trans (Spare.of_but ((But.refl np WA).set 4 _)) (fun _ _ h=>h);have hpA:(WA.setCell ⟨np,4,none⟩ (.bool false)).heap[p]? =some (.cells (YH (h0Z true bs) 0 (.slice none 0 0)) 159 (0,0)):=(heap_setCell_other WA _ _ _ (by show p≠np;omega)).trans HPA.out;generalize WA.setCell ⟨np,4,none⟩ (.bool false)=A1 at*;clear HBA HRA HPA c4 f4 hnpA WA;obtain⟨WA,rfl⟩:=Ex A1;have HRA:=hid hrA;have HBA:=hid hbA;have HPA:=hid hpA;have hnpA:np<A1.heap.size:=(Ai hrA).1;have c5:A1.cell? ⟨np,5,none⟩=some (.int .u64 wr):=qa hrA 5;have f5:=frozen_of_row A1 np 5 _ _ hrA;clear hrA hbA hpA;go_upto_region 3 with(fail)
 have hrA:=qdG (x:=0) HRA.out;have hbA:Spare (fun k=>k≠np) w (A1.setCell ⟨np,5,none⟩ (.int .u64 0)):=HBA.out.trans (Spare.of_but ((But.refl np A1).set 5 _)) (fun _ _ h=>h);have hpA:(A1.setCell ⟨np,5,none⟩ (.int .u64 0)).heap[p]? =some (.cells (YH (h0Z true bs) 0 (.slice none 0 0)) 159 (0,0)):=(heap_setCell_other A1 _ _ _ (by show p≠np;omega)).trans HPA.out;have hs0:w.heap.size≤(A1.setCell ⟨np,5,none⟩ (.int .u64 0)).heap.size:=hbA.size;generalize A1.setCell ⟨np,5,none⟩ (.int .u64 0)=WA at*;clear HBA HRA HPA c5 f5 hnpA A1;have c3:WA.cell? ⟨np,3,none⟩=some (.slice ka kz.length kc):=qa hrA 3;have hnpA:np<WA.heap.size:=(Ai hrA).1;have hpA2:p<WA.heap.size:=(Ai hpA).1;have HRA:=hid hrA;have HBA:=hid hbA;have HPA:=hid hpA;clear hrA hbA hpA;by_cases hk0:kz.length=0
 case pos=>
  obtain rfl:kz=[]:=List.eq_nil_of_length_eq_zero hk0;go_wp2
  go_end0
  exact⟨rfl,⟨p,.slice none 0 0,hp1,HRA.out,Ju HPA.out,fun g h=>by cases h⟩,HBA.out⟩
 have hk1:0<kz.length:=by omega
 have hk2:(kz.length:Int)≤64:=by omega
 go_upto_region 4 with(fail)
 have hKA:Hold WA (.slice ka kz.length kc) kz:=HK.out.keep HBA.out.size fun b hb hlt=>HBA.out.block b hlt (fun e=>HKN.out (by rw[hb,e]))
 have HKA:=hid hKA;have hpz:=Qv (n:=128) (zs:=kz) (by omega);have HPZ:=hid hpz;have HK0:=hid hk0;clear hKA hpz hk0 c3;have hkp:(Value.slice ka kz.length kc).ownBlock≠some p:=fun e=>by have:=yN HK.out (fun e=>by rw[e]at hk1;simp at hk1) e;omega
 refine QP (fun f W=>W.heap[np]? =some (.cells (QS 1 dg bv (.slice ka kz.length kc) false 0 (.iface 153 (.pointer (some ⟨p,0,none⟩)))) 80 (0,0))∧(f=false→Below WA.heap.size WA W)∧(WA.heap.size≤W.heap.size∧(∀b,b<WA.heap.size→b≠p→W.heap[b]? =WA.heap[b]?))∧(f=true→Spare (fun k=>k≠p) WA W∧ ∃hv,QE true W p hv (h0Z true bs) (Qp 128 kz)∧ ∀g,hv.ownBlock=some g→WA.heap.size≤g)) 16 [.v 26 (.pointer (some ⟨np,0,none⟩)),.v 27 (.pointer (some ⟨np,0,none⟩)),.v 28 (.pointer (some ⟨np,6,none⟩)),.v 29 (.iface 153 (.pointer (some ⟨p,0,none⟩))),.v 30 (.pointer (some ⟨np,0,none⟩)),.v 31 (.pointer (some ⟨np,0,none⟩)),.v 32 (.pointer (some ⟨np,3,none⟩)),.v 33 (.slice ka kz.length kc),.v 34 (.pointer (some ⟨np,0,none⟩)),.v 35 (.pointer (some ⟨np,0,none⟩)),.v 36 (.pointer (some ⟨np,0,none⟩)),.v 37 (.int .i64 1),.v 38 (.int .i64 128),.p 39 (fun u W=>W.ownsRow WA.heap.size 5 1 u 128 ((Qp 128 kz).map qo)),.v 40 (.iface 153 (.pointer (some ⟨p,0,none⟩))),.v 41 (.iface 153 (.pointer (some ⟨p,0,none⟩))),.p 42 (fun _ _=>True)] (by exact⟨(fun _ _ hb _ h=>qf h (fun g _ hg=>hb.block g hg)),kW,trivial⟩) ⟨HRA.out,fun _=>Br.drew,⟨Nat.le_refl _,fun _ _ _=>rfl⟩,fun h=>(by cases h)⟩ (fun f W W' h hb=>⟨qe h.1 hb,fun e=>(h.2.1 e).trans (hb.mono (h.2.1 e).size),⟨Nat.le_trans h.2.2.1.1 hb.size,fun b h1 h2=>(hb.block b (Nat.lt_of_lt_of_le h1 h.2.2.1.1)).trans (h.2.2.1.2 b h1 h2)⟩,fun e=>by obtain⟨h1,hv,h2,h3⟩:=h.2.2.2 e;exact⟨h1.trans (Spare.of_below _ hb) (fun _ _ h=>h),hv,ye h2 hb,h3⟩⟩) ?_ ?_ ?_
 ·repeat' (with_reducible first|exact qw|refine qu ?_ ?_)
  all_goals try
   refine .inr ?_;intro A x W f hA hR hf hdep D K hK;have a0:=hA.2 0 (by decide);conv at a0=>rhs;whnf
   simp only[QN,Q0]at D;clear hdep hA;go_simp
   exact hK _ _ BR rfl
  any_goals exact .inl rfl
  all_goals refine .inr ?_
  ·intro A x W f hA hR hf hdep _ K hK;have g28:=gw hA hdep 2 28;clear hdep hA;have g0:=hR.1;have c0:W.cell? ⟨np,6,none⟩=some (.iface 153 (.pointer (some ⟨p,0,none⟩))):=qa g0 6;go_simp
   exact hK _ _ BR rfl
  ·intro A x W f hA hR hf hdep _ K hK;have g32:=gw hA hdep 6 32;clear hdep hA;have g0:=hR.1;have c0:W.cell? ⟨np,3,none⟩=some (.slice ka kz.length kc):=qa g0 3;go_simp
   exact hK _ _ BR rfl
  ·intro A x W f hA hR hf hdep _ K hK;have g36:=gw hA hdep 10 36;clear hdep hA;have g0:=hR.1;have c0:W.cell? ⟨np,0,none⟩=some (.int .i64 1):=qa g0 0;go_simp
   exact hK _ _ BR rfl
  ·intro A x W f hA hR hf hdep _ K hK;have g37:=gw hA hdep 11 37;clear hdep hA;go_simp
   refine(zn true _).mono ?_;rintro e w' ⟨rfl,hw⟩;exact hK _ _ (by rw[hw];exact Below.refl _ _) rfl
  ·intro A x W f hA hR hf hdep _ K hK;have g33:=gw hA hdep 7 33;have g38:=gw hA hdep 12 38;clear hdep hA;go_simp
   have hKW:Hold W (.slice ka kz.length kc) kz:=HKA.out.keep hR.2.2.1.1 (fun b hb hlt=>hR.2.2.1.2 b hlt (fun e=>hkp (by rw[hb,e])));refine(Zl kz _ 128 _ hKW (by omega) (by decide)).mono ?_;rintro e w' ⟨u,rfl,ho,hb⟩;exact hK _ _ hb (ownsRow_le ho hR.2.2.1.1)
 ·intro A x W hA hR hdep K hK;have g41:=gw hA hdep 15 41;have g39:(fun u W=>W.ownsRow WA.heap.size 5 1 u 128 ((Qp 128 kz).map qo)) (x 39) W:=hdep ⟨13,.data⟩ (by simp) rfl;have a39:A.tmps.getD 39 undef=x 39:=hA.1 39 (by decide);clear hdep hA;have hB:=hR.2.1 rfl;go_simp
  refine yE (f:=200) (by kernel_rfl) ?_;go_simp
  have hbz:=QR (n:=128) HK.out.1;have hx39:Hold W (x 39) (Qp 128 kz):=Qd g39 hbz;refine(Jv (h0Z true bs) [] (Qp 128 kz) (QC true bs) (fun _ h=>by cases h) p (.slice none 0 0) (x 39) W (Ju (qe HPA.out hB)) hx39 (fun _ b hb=>⟨fun e=>by have:=JP g39 hb;omega,fun e=>by cases e⟩) (by rw[HPZ.out];simp)).mono ?_;rintro e w' ⟨rfl,⟨hv',hE',hO'⟩,hS'⟩
  refine hK _ _ (fun h=>by cases h) ⟨(hS'.block np (Ai hR.1).1 ⟨by omega,fun e=>by cases e⟩).trans hR.1,fun h=>(by cases h),⟨Nat.le_trans hR.2.2.1.1 hS'.size,fun b h1 h2=>(hS'.block b (Nat.lt_of_lt_of_le h1 hR.2.2.1.1) ⟨h2,fun e=>by cases e⟩).trans (hR.2.2.1.2 b h1 h2)⟩,fun _=>⟨(Spare.of_below _ hB).trans hS' (fun b _ h=>⟨h,fun e=>by cases e⟩),hv',hE',fun g hg=>?_⟩⟩ ⟨.inr (fun _ h=>h),.inr (fun _ h=>h),.inr (fun _ h=>h),.inr (fun _ h=>h),.inr (fun _ h=>h),.inr (fun _ h=>h),.inr (fun _ h=>h),.inr (fun _ h=>h),.inr (fun _ h=>h),.inr (fun _ h=>h),.inr (fun _ h=>h),.inr (fun _ h=>h),.inr (fun _ h=>h),.inr (fun u h=>qf h (fun g h1 h2=>hS'.block g h2 ⟨by omega,fun e=>by cases e⟩)),.inr (fun _ h=>h),.inr (fun _ h=>h),.inl rfl,trivial⟩ trivial;rcases hO' with hO'|hO'
  ·rw[hO']at hg;cases hg
  ·have:=hO' g hg;have:=hB.size;omega
 intro x W hR hall;obtain⟨e39,e42, -⟩:=hall;change (fun u W=>W.ownsRow WA.heap.size 5 1 u 128 ((Qp 128 kz).map qo)) (x 39) W at e39
 change ((fun _ _=>True)) (x 42) W at e42
 simp only[Qw,Act.put,Ls];obtain⟨hr9, -, -,h9⟩:=hR;obtain⟨hs9,hv9,hE9,ho9⟩:=h9 rfl;have H9:=hid (show(∃p hv,w.heap.size≤p∧W.heap[np]? =some (.cells (QS 1 dg bv (.slice ka kz.length kc) false 0 (.iface 153 (.pointer (some ⟨p,0,none⟩)))) 80 (0,0))∧QE true W p hv (h0Z true bs) (QY 128 kz)∧(∀g,hv.ownBlock=some g→w.heap.size≤g))∧Spare (fun k=>k≠np) w W from⟨⟨p,hv9,hp1,hr9,by unfold QY;rw[if_neg HK0.out];exact hE9,fun g hg=>Nat.le_trans hs0 (ho9 g hg)⟩,HBA.out.trans hs9 (fun b hb _=>by omega)⟩);clear hr9 hs9 hE9 ho9 h9 e39;go_wp2
 go_end0
 exact⟨rfl,H9.out⟩
theorem qct (bs kz:List Int)(np:Nat)(dg wr:Int)(la:Bool)(bv kv e0:Value)(w:World)(hrow:w.heap[np]? =some (.cells (QS 2 dg bv kv la wr e0) 80 (0,0)))(hB:Hold w bv bs)(hK:Hold w kv kz)(hl:bs.length=32)(hkl:kz.length≤32)(hkn:kv.ownBlock≠some np):
  Calls Tryz.prog 55 #[.pointer (some ⟨np,0,none⟩)] w fun e w'=>e= .returned (.tuple #[])∧(∃p hv,w.heap.size≤p∧w'.heap[np]? =some (.cells (QS 2 dg bv kv false 0 (.iface 163 (.pointer (some ⟨p,0,none⟩)))) 80 (0,0))∧QE false w' p hv (h0Z false bs) (QY 64 kz)∧(∀g,hv.ownBlock=some g→w.heap.size≤g))∧Spare (fun k=>k≠np) w w':=by
 have hnp:np<w.heap.size:=(Ai hrow).1;obtain⟨kn,kc,ka,rfl⟩: ∃n c a,kv= .slice a n c:=by obtain⟨a,c,e, -⟩:=hK.slice;exact⟨_,_,_,e⟩
 obtain rfl:kn=kz.length:=hK.of_len;have HROW:=hid hrow;have HB:=hid hB;have HK:=hid hK;have HL:=hid hl;have HKN:=hid hkn;clear hrow hB hK hl hkn;go_enter Tryz.func55,Tryz.ntmps55
 go_upto_region 0 with(fail)
 refine qy (n:=10) (w0:=w) (B:=w.heap.size) [.v 2 (.pointer (some ⟨np,0,none⟩)),.v 3 (.pointer (some ⟨np,0,none⟩)),.v 4 (.pointer (some ⟨np,0,none⟩)),.v 5 (.pointer (some ⟨np,0,none⟩)),.v 6 (.int .i64 2),.v 7 (.pointer (some ⟨np,0,none⟩)),.v 8 (.pointer (some ⟨np,0,none⟩)),.v 9 (.pointer (some ⟨np,2,none⟩)),.v 10 bv,.p 11 (fun u W=> ∃p,u= .iface 163 (.pointer (some ⟨p,0,none⟩))∧w.heap.size≤p∧W.heap[p]? =some (.cells (YG (h0Z false bs) 0 (.slice none 0 0)) 167 (0,0)))] (by exact⟨(fun _ _ _ h hb=>by obtain⟨p,e,h3,h4⟩:=h;exact⟨p,e,h3,qe h4 hb⟩),trivial⟩) Br.drew Nl ?_ ?_
 ·repeat' (with_reducible first|exact qw|refine qu ?_ ?_)
  all_goals try
   intro A x W hA hW hBW hdep D K hK;have a0:=hA.2 0 (by decide);conv at a0=>rhs;whnf
   simp only[QN,Q0]at D;clear hdep hA;go_simp
   exact hK _ _ BR rfl
  ·intro A x W hA hW hBW hdep _ K hK;have g5:=gv hA hdep 3 5;clear hdep hA;have g0:=qe HROW.out hW;have c0:W.cell? ⟨np,0,none⟩=some (.int .i64 2):=qa g0 0;go_simp
   exact hK _ _ BR rfl
  ·intro A x W hA hW hBW hdep _ K hK;have g9:=gv hA hdep 7 9;clear hdep hA;have g0:=qe HROW.out hW;have c0:W.cell? ⟨np,2,none⟩=some bv:=qa g0 2;go_simp
   exact hK _ _ BR rfl
  ·intro A x W hA hW hBW hdep _ K hK;have g6:=gv hA hdep 4 6;have g10:=gv hA hdep 8 10;clear hdep hA;go_simp
   refine(qcs bs bv _ (HB.out.holds8.mono_below hW Nl) HB.out.1 HL.out).mono ?_;rintro e w' ⟨p,rfl,h1,h2,hb⟩;exact hK _ _ hb ⟨p,rfl,Nat.le_trans hBW h1,h2⟩
 intro x W hW hBW hall;obtain⟨e11, -⟩:=hall;change (fun u W=> ∃p,u= .iface 163 (.pointer (some ⟨p,0,none⟩))∧w.heap.size≤p∧W.heap[p]? =some (.cells (YG (h0Z false bs) 0 (.slice none 0 0)) 167 (0,0))) (x 11) W at e11
 obtain⟨p,e11,hp1,hp2⟩:=e11;refine qn ?_;simp only[Qw,Act.put,Ls,e11];clear e11;have hr1:=qe HROW.out hW;have HP2:=hid hp2;have HR1:=hid hr1;have HW:=hid hW;have hnp1:np<W.heap.size:=(Ai hr1).1;have c6:W.cell? ⟨np,6,none⟩=some e0:=qa hr1 6;have f6:=frozen_of_row W np 6 _ _ hr1;clear hp2 hr1 hW hBW x;go_wp2_with fail
 refine qn ?_;go_wp2_with fail
 refine qn ?_;go_wp2_with fail
 refine qt ?_;have hrA:=qe7 (v:= .iface 163 (.pointer (some ⟨p,0,none⟩))) HR1.out;have hbA:Spare (fun k=>k≠np) w (W.setCell ⟨np,6,none⟩ (.iface 163 (.pointer (some ⟨p,0,none⟩)))):=(Spare.of_below _ HW.out).trans (Spare.of_but ((But.refl np W).set 6 _)) (fun _ _ h=>h);have hpA:(W.setCell ⟨np,6,none⟩ (.iface 163 (.pointer (some ⟨p,0,none⟩)))).heap[p]? =some (.cells (YG (h0Z false bs) 0 (.slice none 0 0)) 167 (0,0)):=(heap_setCell_other W _ _ _ (by show p≠np;omega)).trans HP2.out;generalize W.setCell ⟨np,6,none⟩ (.iface 163 (.pointer (some ⟨p,0,none⟩)))=WA at*;clear HW HR1 HP2 c6 f6 hnp1 W;have c4:WA.cell? ⟨np,4,none⟩=some (.bool la):=qa hrA 4;have f4:=frozen_of_row WA np 4 _ _ hrA;have hnpA:np<WA.heap.size:=(Ai hrA).1;have HRA:=hid hrA;have HBA:=hid hbA;have HPA:=hid hpA;clear hrA hbA hpA;go_upto_region 2 with(fail)
 have hrA:=Zo (b:=false) HRA.out;have hbA:Spare (fun k=>k≠np) w (WA.setCell ⟨np,4,none⟩ (.bool false)):=HBA.out.trans (Spare.of_but ((But.refl np WA).set 4 _)) (fun _ _ h=>h);have hpA:(WA.setCell ⟨np,4,none⟩ (.bool false)).heap[p]? =some (.cells (YG (h0Z false bs) 0 (.slice none 0 0)) 167 (0,0)):=(heap_setCell_other WA _ _ _ (by show p≠np;omega)).trans HPA.out;generalize WA.setCell ⟨np,4,none⟩ (.bool false)=A1 at*;clear HBA HRA HPA c4 f4 hnpA WA;obtain⟨WA,rfl⟩:=Ex A1;have HRA:=hid hrA;have HBA:=hid hbA;have HPA:=hid hpA;have hnpA:np<A1.heap.size:=(Ai hrA).1;have c5:A1.cell? ⟨np,5,none⟩=some (.int .u64 wr):=qa hrA 5;have f5:=frozen_of_row A1 np 5 _ _ hrA;clear hrA hbA hpA;go_upto_region 3 with(fail)
 have hrA:=qdG (x:=0) HRA.out;have hbA:Spare (fun k=>k≠np) w (A1.setCell ⟨np,5,none⟩ (.int .u64 0)):=HBA.out.trans (Spare.of_but ((But.refl np A1).set 5 _)) (fun _ _ h=>h);have hpA:(A1.setCell ⟨np,5,none⟩ (.int .u64 0)).heap[p]? =some (.cells (YG (h0Z false bs) 0 (.slice none 0 0)) 167 (0,0)):=(heap_setCell_other A1 _ _ _ (by show p≠np;omega)).trans HPA.out;have hs0:w.heap.size≤(A1.setCell ⟨np,5,none⟩ (.int .u64 0)).heap.size:=hbA.size;generalize A1.setCell ⟨np,5,none⟩ (.int .u64 0)=WA at*;clear HBA HRA HPA c5 f5 hnpA A1;have c3:WA.cell? ⟨np,3,none⟩=some (.slice ka kz.length kc):=qa hrA 3;have hnpA:np<WA.heap.size:=(Ai hrA).1;have hpA2:p<WA.heap.size:=(Ai hpA).1;have HRA:=hid hrA;have HBA:=hid hbA;have HPA:=hid hpA;clear hrA hbA hpA;by_cases hk0:kz.length=0
 case pos=>
  obtain rfl:kz=[]:=List.eq_nil_of_length_eq_zero hk0;go_wp2
  go_end0
  exact⟨rfl,⟨p,.slice none 0 0,hp1,HRA.out,Ju HPA.out,fun g h=>by cases h⟩,HBA.out⟩
 have hk1:0<kz.length:=by omega
 have hk2:(kz.length:Int)≤32:=by omega
 go_upto_region 4 with(fail)
 have hKA:Hold WA (.slice ka kz.length kc) kz:=HK.out.keep HBA.out.size fun b hb hlt=>HBA.out.block b hlt (fun e=>HKN.out (by rw[hb,e]))
 have HKA:=hid hKA;have hpz:=Qv (n:=64) (zs:=kz) (by omega);have HPZ:=hid hpz;have HK0:=hid hk0;clear hKA hpz hk0 c3;have hkp:(Value.slice ka kz.length kc).ownBlock≠some p:=fun e=>by have:=yN HK.out (fun e=>by rw[e]at hk1;simp at hk1) e;omega
 refine QP (fun f W=>W.heap[np]? =some (.cells (QS 2 dg bv (.slice ka kz.length kc) false 0 (.iface 163 (.pointer (some ⟨p,0,none⟩)))) 80 (0,0))∧(f=false→Below WA.heap.size WA W)∧(WA.heap.size≤W.heap.size∧(∀b,b<WA.heap.size→b≠p→W.heap[b]? =WA.heap[b]?))∧(f=true→Spare (fun k=>k≠p) WA W∧ ∃hv,QE false W p hv (h0Z false bs) (Qp 64 kz)∧ ∀g,hv.ownBlock=some g→WA.heap.size≤g)) 16 [.v 26 (.pointer (some ⟨np,0,none⟩)),.v 27 (.pointer (some ⟨np,0,none⟩)),.v 28 (.pointer (some ⟨np,6,none⟩)),.v 29 (.iface 163 (.pointer (some ⟨p,0,none⟩))),.v 30 (.pointer (some ⟨np,0,none⟩)),.v 31 (.pointer (some ⟨np,0,none⟩)),.v 32 (.pointer (some ⟨np,3,none⟩)),.v 33 (.slice ka kz.length kc),.v 34 (.pointer (some ⟨np,0,none⟩)),.v 35 (.pointer (some ⟨np,0,none⟩)),.v 36 (.pointer (some ⟨np,0,none⟩)),.v 37 (.int .i64 2),.v 38 (.int .i64 64),.p 39 (fun u W=>W.ownsRow WA.heap.size 5 1 u 64 ((Qp 64 kz).map qo)),.v 40 (.iface 163 (.pointer (some ⟨p,0,none⟩))),.v 41 (.iface 163 (.pointer (some ⟨p,0,none⟩))),.p 42 (fun _ _=>True)] (by exact⟨(fun _ _ hb _ h=>qf h (fun g _ hg=>hb.block g hg)),kW,trivial⟩) ⟨HRA.out,fun _=>Br.drew,⟨Nat.le_refl _,fun _ _ _=>rfl⟩,fun h=>(by cases h)⟩ (fun f W W' h hb=>⟨qe h.1 hb,fun e=>(h.2.1 e).trans (hb.mono (h.2.1 e).size),⟨Nat.le_trans h.2.2.1.1 hb.size,fun b h1 h2=>(hb.block b (Nat.lt_of_lt_of_le h1 h.2.2.1.1)).trans (h.2.2.1.2 b h1 h2)⟩,fun e=>by obtain⟨h1,hv,h2,h3⟩:=h.2.2.2 e;exact⟨h1.trans (Spare.of_below _ hb) (fun _ _ h=>h),hv,ye h2 hb,h3⟩⟩) ?_ ?_ ?_
 ·repeat' (with_reducible first|exact qw|refine qu ?_ ?_)
  all_goals try
   refine .inr ?_;intro A x W f hA hR hf hdep D K hK;have a0:=hA.2 0 (by decide);conv at a0=>rhs;whnf
   simp only[QN,Q0]at D;clear hdep hA;go_simp
   exact hK _ _ BR rfl
  any_goals exact .inl rfl
  all_goals refine .inr ?_
  ·intro A x W f hA hR hf hdep _ K hK;have g28:=gw hA hdep 2 28;clear hdep hA;have g0:=hR.1;have c0:W.cell? ⟨np,6,none⟩=some (.iface 163 (.pointer (some ⟨p,0,none⟩))):=qa g0 6;go_simp
   exact hK _ _ BR rfl
  ·intro A x W f hA hR hf hdep _ K hK;have g32:=gw hA hdep 6 32;clear hdep hA;have g0:=hR.1;have c0:W.cell? ⟨np,3,none⟩=some (.slice ka kz.length kc):=qa g0 3;go_simp
   exact hK _ _ BR rfl
  ·intro A x W f hA hR hf hdep _ K hK;have g36:=gw hA hdep 10 36;clear hdep hA;have g0:=hR.1;have c0:W.cell? ⟨np,0,none⟩=some (.int .i64 2):=qa g0 0;go_simp
   exact hK _ _ BR rfl
  ·intro A x W f hA hR hf hdep _ K hK;have g37:=gw hA hdep 11 37;clear hdep hA;go_simp
   refine(zn false _).mono ?_;rintro e w' ⟨rfl,hw⟩;exact hK _ _ (by rw[hw];exact Below.refl _ _) rfl
  ·intro A x W f hA hR hf hdep _ K hK;have g33:=gw hA hdep 7 33;have g38:=gw hA hdep 12 38;clear hdep hA;go_simp
   have hKW:Hold W (.slice ka kz.length kc) kz:=HKA.out.keep hR.2.2.1.1 (fun b hb hlt=>hR.2.2.1.2 b hlt (fun e=>hkp (by rw[hb,e])));refine(Zl kz _ 64 _ hKW (by omega) (by decide)).mono ?_;rintro e w' ⟨u,rfl,ho,hb⟩;exact hK _ _ hb (ownsRow_le ho hR.2.2.1.1)
 ·intro A x W hA hR hdep K hK;have g41:=gw hA hdep 15 41;have g39:(fun u W=>W.ownsRow WA.heap.size 5 1 u 64 ((Qp 64 kz).map qo)) (x 39) W:=hdep ⟨13,.data⟩ (by simp) rfl;have a39:A.tmps.getD 39 undef=x 39:=hA.1 39 (by decide);clear hdep hA;have hB:=hR.2.1 rfl;go_simp
  refine yE (f:=206) (by kernel_rfl) ?_;go_simp
  have hbz:=QR (n:=64) HK.out.1;have hx39:Hold W (x 39) (Qp 64 kz):=Qd g39 hbz;refine(jV (h0Z false bs) [] (Qp 64 kz) (QC false bs) (fun _ h=>by cases h) p (.slice none 0 0) (x 39) W (Ju (qe HPA.out hB)) hx39 (fun _ b hb=>⟨fun e=>by have:=JP g39 hb;omega,fun e=>by cases e⟩) (by rw[HPZ.out];simp)).mono ?_;rintro e w' ⟨rfl,⟨hv',hE',hO'⟩,hS'⟩
  refine hK _ _ (fun h=>by cases h) ⟨(hS'.block np (Ai hR.1).1 ⟨by omega,fun e=>by cases e⟩).trans hR.1,fun h=>(by cases h),⟨Nat.le_trans hR.2.2.1.1 hS'.size,fun b h1 h2=>(hS'.block b (Nat.lt_of_lt_of_le h1 hR.2.2.1.1) ⟨h2,fun e=>by cases e⟩).trans (hR.2.2.1.2 b h1 h2)⟩,fun _=>⟨(Spare.of_below _ hB).trans hS' (fun b _ h=>⟨h,fun e=>by cases e⟩),hv',hE',fun g hg=>?_⟩⟩ ⟨.inr (fun _ h=>h),.inr (fun _ h=>h),.inr (fun _ h=>h),.inr (fun _ h=>h),.inr (fun _ h=>h),.inr (fun _ h=>h),.inr (fun _ h=>h),.inr (fun _ h=>h),.inr (fun _ h=>h),.inr (fun _ h=>h),.inr (fun _ h=>h),.inr (fun _ h=>h),.inr (fun _ h=>h),.inr (fun u h=>qf h (fun g h1 h2=>hS'.block g h2 ⟨by omega,fun e=>by cases e⟩)),.inr (fun _ h=>h),.inr (fun _ h=>h),.inl rfl,trivial⟩ trivial;rcases hO' with hO'|hO'
  ·rw[hO']at hg;cases hg
  ·have:=hO' g hg;have:=hB.size;omega
 intro x W hR hall;obtain⟨e39,e42, -⟩:=hall;change (fun u W=>W.ownsRow WA.heap.size 5 1 u 64 ((Qp 64 kz).map qo)) (x 39) W at e39
 change ((fun _ _=>True)) (x 42) W at e42
 simp only[Qw,Act.put,Ls];obtain⟨hr9, -, -,h9⟩:=hR;obtain⟨hs9,hv9,hE9,ho9⟩:=h9 rfl;have H9:=hid (show(∃p hv,w.heap.size≤p∧W.heap[np]? =some (.cells (QS 2 dg bv (.slice ka kz.length kc) false 0 (.iface 163 (.pointer (some ⟨p,0,none⟩)))) 80 (0,0))∧QE false W p hv (h0Z false bs) (QY 64 kz)∧(∀g,hv.ownBlock=some g→w.heap.size≤g))∧Spare (fun k=>k≠np) w W from⟨⟨p,hv9,hp1,hr9,by unfold QY;rw[if_neg HK0.out];exact hE9,fun g hg=>Nat.le_trans hs0 (ho9 g hg)⟩,HBA.out.trans hs9 (fun b hb _=>by omega)⟩);clear hr9 hs9 hE9 ho9 h9 e39;go_wp2
 go_end0
 exact⟨rfl,H9.out⟩
def Fresh (base:Nat)(W:World)(v:Value)(zs:List Int):Prop:=
 (zs=[]∧v= .slice none 0 0)∨ ∃g cap cur,v= .slice (some ⟨g,0,none⟩) zs.length cap∧base≤g∧W.heap[g]? =some (.cells cur 5 (0,0))∧zs.length≤cap∧cap≤cur.size∧cap≤maxLen∧cur.toList.take zs.length=zs.map qo
theorem Fresh.below {base:Nat}{W W':World}{v:Value}{zs:List Int}(h:Fresh base W v zs)(hb:Below W.heap.size W W'):Fresh base W' v zs:=by
 rcases h with h|⟨g,cap,cur,e,h1,h2,h3⟩
 ·exact .inl h
 ·exact .inr ⟨g,cap,cur,e,h1,qe h2 hb,h3⟩
theorem Fresh.le {base b':Nat}{W:World}{v:Value}{zs:List Int}(h:Fresh base W v zs)(hb:b'≤base):Fresh b' W v zs:=by
 rcases h with h|⟨g,cap,cur,e,h1,h2⟩
 ·exact .inl h
 ·exact .inr ⟨g,cap,cur,e,Nat.le_trans hb h1,h2⟩
theorem Fresh.hold {base:Nat}{W:World}{v:Value}{zs:List Int}(h:Fresh base W v zs)(hz: ∀z∈zs,0≤z∧z≤255):Hold W v zs:=by
 refine⟨hz,?_⟩;rcases h with h|⟨g,cap,cur,rfl,h1,h2,h3,h4,h5,h6⟩
 ·exact .inl h
 ·refine .inr ⟨⟨g,0,none⟩,cap,rfl,h3,h5,.inr ⟨g,0,rfl,(Ai h2).1,fun i hi=>?_⟩⟩;have e:=congrArg (fun l:List Value=>l[i]?) h6;simp only[List.getElem?_take,hi,if_true,List.getElem?_map,Array.getElem?_toList]at e;rw[Nat.zero_add,qa h2 i,e];simp[qo,qm,Lg,hi]
theorem JZ {base g c m:Nat}{W:World}{zs:List Int}(h:W.ownsRow base 5 1 (.slice (some ⟨g,0,none⟩) zs.length c) zs.length (zs.map qo))(hm:m≤zs.length):Fresh base W (.slice (some ⟨g,0,none⟩) m m) (zs.take m):=by
 obtain⟨cur,h2,h3,h4,h5,h6,h7⟩:=YR h;have e:(zs.take m).length=m:=by simp[List.length_take,Nat.min_eq_left hm]
 refine .inr ⟨g,m,cur,by rw[e],h5,h2,by omega,by omega,by omega,?_⟩;rw[e,List.map_take,←h4,List.take_take,Nat.min_eq_left hm]
theorem qdF (big:Bool)(np p:Nat)(kind dg wr:Int)(la:Bool)(bv kv:Value)(w:World)(hrow:w.heap[np]? =some (.cells (QS kind dg bv kv la wr (.iface (phT big) (.pointer (some ⟨p,0,none⟩)))) 80 (0,0))):
  Calls Tryz.prog 56 #[.pointer (some ⟨np,0,none⟩)] w fun e w'=>e= .returned (.bool false)∧w'=w:=by
 have c6:w.cell? ⟨np,6,none⟩=some (.iface (phT big) (.pointer (some ⟨p,0,none⟩))):=qa hrow 6;have hnp:np<w.heap.size:=(Ai hrow).1;clear hrow;go_enter Tryz.func56,Tryz.ntmps56
 go_wp2
 go_ret
 exact⟨rfl,rfl⟩
theorem Zm {W:World}{B n:Nat}{v:Value}{xs:List Value}(h:W.ownsRow B 5 1 v n xs):W.ownsRow 0 5 1 v n xs:=ownsRow_le h (Nat.zero_le _)
theorem qbq (h0 msg:List Int)(hh:Words 64 8 h0)(hm: ∀z∈msg,0≤z∧z≤255)(np p m:Nat)(dg wr:Int)(la:Bool)(bv kv hv:Value)(w:World)(hrow:w.heap[np]? =some (.cells (QS 1 dg bv kv la wr (.iface 153 (.pointer (some ⟨p,0,none⟩)))) 80 (0,0)))(hE:QE true w p hv h0 msg)(hlen:(msg.length:Int)≤281474976710656)(hm1:1≤m)(hm2:m≤64):
  Calls Tryz.prog 34 #[.pointer (some ⟨np,0,none⟩),.int .i64 (m:Nat)] w fun e w'=>(∃v,e= .returned (.tuple #[v,.int .i64 0])∧Fresh w.heap.size w' v ((YD true h0 msg la).take m))∧Below w.heap.size w w':=by
 have hN:=qdF true np p 1 dg wr la bv kv w hrow;have c0:w.cell? ⟨np,0,none⟩=some (.int .i64 1):=qa hrow 0;have hnp:np<w.heap.size:=(Ai hrow).1;have HN:=hid hN;have HROW:=hid hrow;have HO:=hid (fun(W:World) (h:QE true W p hv h0 msg)=>qe5 h0 msg la hh hm p hv W h hlen);have HE:=hid hE;have hol:=YS true h0 msg la;generalize YD true h0 msg la=Z at*;have HOL:=hid (show Z.length=64 from hol);clear hN hrow hE hh hm hlen hol;have hm3:1≤(m:Int)∧(m:Int)≤64:=by omega
 obtain⟨hm3,hm4⟩:=hm3;go_enter Tryz.func34,Tryz.ntmps34
 go_wp2_with fail
 refine HN.out.mono ?_;rintro e w1 ⟨rfl,hw⟩;rw[hw];clear hw;go_wp2_with fail
 refine(zn true _).mono ?_;rintro e w1 ⟨rfl,hw⟩;rw[hw];clear hw;rw[show((bB true:Nat):Int)=128 from rfl];go_upto_region 5 with(fail)
 clear c0;refine qy (n:=16) (w0:=w) (B:=w.heap.size) [.v 20 (.pointer (some ⟨np,0,none⟩)),.v 21 (.pointer (some ⟨np,0,none⟩)),.v 22 (.pointer (some ⟨np,6,none⟩)),.v 23 (.iface 153 (.pointer (some ⟨p,0,none⟩))),.v 24 (.pointer (some ⟨np,0,none⟩)),.v 25 (.pointer (some ⟨np,0,none⟩)),.v 26 (.pointer (some ⟨np,4,none⟩)),.v 27 (.bool la),.v 28 (.iface 153 (.pointer (some ⟨p,0,none⟩))),.v 29 (.iface 153 (.pointer (some ⟨p,0,none⟩))),.p 30 (fun u W=>W.ownsRow w.heap.size 5 1 u 64 (Z.map qo)),.v 31 (.int .i64 (m:Nat)),.v 32 (.int .i64 (m:Nat)),.p 33 (fun u W=>Fresh w.heap.size W u (Z.take m)),.p 4 (fun u W=>Fresh w.heap.size W u (Z.take m)),.v 5 (.int .i64 0)] (by exact⟨(fun _ _ _ h hb=>qf h (fun g _ hg=>hb.block g hg)),(fun _ _ _ h hb=>h.below hb),(fun _ _ _ h hb=>h.below hb),trivial⟩) Br.drew Nl ?_ ?_
 ·repeat' (with_reducible first|exact qw|refine qu ?_ ?_)
  all_goals try
   intro A x W hA hW hBW hdep D K hK;have a0:=hA.2 0 (by decide);conv at a0=>rhs;whnf
   have a1:=hA.2 1 (by decide);conv at a1=>rhs;whnf
   simp only[QN,Q0]at D;clear hdep hA;go_simp
   exact hK _ _ BR rfl
  ·intro A x W hA hW hBW hdep _ K hK;have g22:=gv hA hdep 2 22;clear hdep hA;have g0:=qe HROW.out hW;have c0:W.cell? ⟨np,6,none⟩=some (.iface 153 (.pointer (some ⟨p,0,none⟩))):=qa g0 6;go_simp
   exact hK _ _ BR rfl
  ·intro A x W hA hW hBW hdep _ K hK;have g26:=gv hA hdep 6 26;clear hdep hA;have g0:=qe HROW.out hW;have c0:W.cell? ⟨np,4,none⟩=some (.bool la):=qa g0 4;go_simp
   exact hK _ _ BR rfl
  ·intro A x W hA hW hBW hdep _ K hK;have g29:=gv hA hdep 9 29;have g27:=gv hA hdep 7 27;clear hdep hA;go_simp
   refine yE (f:=198) (by kernel_rfl) ?_;go_simp
   refine(HO.out _ (ye HE.out hW)).mono ?_;rintro e w' ⟨u,rfl,ho,hb⟩;exact hK _ _ hb (ownsRow_le ho hBW)
  ·intro A x W hA hW hBW hdep _ K hK;have g30:(fun u W=>W.ownsRow w.heap.size 5 1 u 64 (Z.map qo)) (x 30) W:=hdep ⟨10,.data⟩ (by simp) rfl _ rfl;have a30:A.tmps.getD 30 undef=x 30:=hA.1 30 (by decide);have g31:=gv hA hdep 11 31;have g32:=gv hA hdep 12 32;clear hdep hA;obtain⟨s1,s2,s3,e30⟩:=qp g30;rw[e30]at g30 a30;obtain rfl:s2=64:=yn g30;obtain⟨gg,rfl⟩:=zT (Zm g30) (by decide);obtain⟨cu, -, -, -, -,hk1,hk2⟩:=YR g30;have hk3:(s3:Int)≤9223372036854775807:=by unfold maxLen at hk2;omega
   have hk4:(m:Int)≤s3:=by omega
   have hk5:64≤(s3:Int):=by omega
   have hft:=JZ (m:=m) (zs:=Z) (c:=s3) (by rw[HOL.out];exact g30) (by rw[HOL.out];exact hm2);have HFT:=hid hft;clear hft;go_simp
   exact hK _ _ Br HFT.out
  ·intro A x W hA hW hBW hdep _ K hK;have g33:(fun u W=>Fresh w.heap.size W u (Z.take m)) (x 33) W:=hdep ⟨13,.data⟩ (by simp) rfl _ rfl;have a33:A.tmps.getD 33 undef=x 33:=hA.1 33 (by decide);clear hdep hA;go_simp
   exact hK _ _ Br (a33▸g33)
 intro x W hW hBW hall;obtain⟨e30,e33,e4, -⟩:=hall;change (fun u W=>W.ownsRow w.heap.size 5 1 u 64 (Z.map qo)) (x 30) W at e30
 change (fun u W=>Fresh w.heap.size W u (Z.take m)) (x 33) W at e33
 change (fun u W=>Fresh w.heap.size W u (Z.take m)) (x 4) W at e4
 refine qt ?_;simp only[Qw,Act.put,Ls];have E4:=hid e4;have HW:=hid hW;clear e4 e30 e33 hW;go_wp2
 go_ret2
 exact⟨⟨_,rfl,E4.out⟩,HW.out⟩
theorem qau (h0 msg:List Int)(hh:Words 32 8 h0)(hm: ∀z∈msg,0≤z∧z≤255)(np p m:Nat)(dg wr:Int)(la:Bool)(bv kv hv:Value)(w:World)(hrow:w.heap[np]? =some (.cells (QS 2 dg bv kv la wr (.iface 163 (.pointer (some ⟨p,0,none⟩)))) 80 (0,0)))(hE:QE false w p hv h0 msg)(hlen:(msg.length:Int)≤281474976710656)(hm1:1≤m)(hm2:m≤32):
  Calls Tryz.prog 34 #[.pointer (some ⟨np,0,none⟩),.int .i64 (m:Nat)] w fun e w'=>(∃v,e= .returned (.tuple #[v,.int .i64 0])∧Fresh w.heap.size w' v ((YD false h0 msg la).take m))∧Below w.heap.size w w':=by
 have hN:=qdF false np p 2 dg wr la bv kv w hrow;have c0:w.cell? ⟨np,0,none⟩=some (.int .i64 2):=qa hrow 0;have hnp:np<w.heap.size:=(Ai hrow).1;have HN:=hid hN;have HROW:=hid hrow;have HO:=hid (fun(W:World) (h:QE false W p hv h0 msg)=>qef h0 msg la hh hm p hv W h hlen);have HE:=hid hE;have hol:=YS false h0 msg la;generalize YD false h0 msg la=Z at*;have HOL:=hid (show Z.length=32 from hol);clear hN hrow hE hh hm hlen hol;have hm3:1≤(m:Int)∧(m:Int)≤32:=by omega
 obtain⟨hm3,hm4⟩:=hm3;go_enter Tryz.func34,Tryz.ntmps34
 go_wp2_with fail
 refine HN.out.mono ?_;rintro e w1 ⟨rfl,hw⟩;rw[hw];clear hw;go_wp2_with fail
 refine(zn false _).mono ?_;rintro e w1 ⟨rfl,hw⟩;rw[hw];clear hw;rw[show((bB false:Nat):Int)=64 from rfl];go_upto_region 5 with(fail)
 clear c0;refine qy (n:=16) (w0:=w) (B:=w.heap.size) [.v 20 (.pointer (some ⟨np,0,none⟩)),.v 21 (.pointer (some ⟨np,0,none⟩)),.v 22 (.pointer (some ⟨np,6,none⟩)),.v 23 (.iface 163 (.pointer (some ⟨p,0,none⟩))),.v 24 (.pointer (some ⟨np,0,none⟩)),.v 25 (.pointer (some ⟨np,0,none⟩)),.v 26 (.pointer (some ⟨np,4,none⟩)),.v 27 (.bool la),.v 28 (.iface 163 (.pointer (some ⟨p,0,none⟩))),.v 29 (.iface 163 (.pointer (some ⟨p,0,none⟩))),.p 30 (fun u W=>W.ownsRow w.heap.size 5 1 u 32 (Z.map qo)),.v 31 (.int .i64 (m:Nat)),.v 32 (.int .i64 (m:Nat)),.p 33 (fun u W=>Fresh w.heap.size W u (Z.take m)),.p 4 (fun u W=>Fresh w.heap.size W u (Z.take m)),.v 5 (.int .i64 0)] (by exact⟨(fun _ _ _ h hb=>qf h (fun g _ hg=>hb.block g hg)),(fun _ _ _ h hb=>h.below hb),(fun _ _ _ h hb=>h.below hb),trivial⟩) Br.drew Nl ?_ ?_
 ·repeat' (with_reducible first|exact qw|refine qu ?_ ?_)
  all_goals try
   intro A x W hA hW hBW hdep D K hK;have a0:=hA.2 0 (by decide);conv at a0=>rhs;whnf
   have a1:=hA.2 1 (by decide);conv at a1=>rhs;whnf
   simp only[QN,Q0]at D;clear hdep hA;go_simp
   exact hK _ _ BR rfl
  ·intro A x W hA hW hBW hdep _ K hK;have g22:=gv hA hdep 2 22;clear hdep hA;have g0:=qe HROW.out hW;have c0:W.cell? ⟨np,6,none⟩=some (.iface 163 (.pointer (some ⟨p,0,none⟩))):=qa g0 6;go_simp
   exact hK _ _ BR rfl
  ·intro A x W hA hW hBW hdep _ K hK;have g26:=gv hA hdep 6 26;clear hdep hA;have g0:=qe HROW.out hW;have c0:W.cell? ⟨np,4,none⟩=some (.bool la):=qa g0 4;go_simp
   exact hK _ _ BR rfl
  ·intro A x W hA hW hBW hdep _ K hK;have g29:=gv hA hdep 9 29;have g27:=gv hA hdep 7 27;clear hdep hA;go_simp
   refine yE (f:=204) (by kernel_rfl) ?_;go_simp
   refine(HO.out _ (ye HE.out hW)).mono ?_;rintro e w' ⟨u,rfl,ho,hb⟩;exact hK _ _ hb (ownsRow_le ho hBW)
  ·intro A x W hA hW hBW hdep _ K hK;have g30:(fun u W=>W.ownsRow w.heap.size 5 1 u 32 (Z.map qo)) (x 30) W:=hdep ⟨10,.data⟩ (by simp) rfl _ rfl;have a30:A.tmps.getD 30 undef=x 30:=hA.1 30 (by decide);have g31:=gv hA hdep 11 31;have g32:=gv hA hdep 12 32;clear hdep hA;obtain⟨s1,s2,s3,e30⟩:=qp g30;rw[e30]at g30 a30;obtain rfl:s2=32:=yn g30;obtain⟨gg,rfl⟩:=zT (Zm g30) (by decide);obtain⟨cu, -, -, -, -,hk1,hk2⟩:=YR g30;have hk3:(s3:Int)≤9223372036854775807:=by unfold maxLen at hk2;omega
   have hk4:(m:Int)≤s3:=by omega
   have hk5:32≤(s3:Int):=by omega
   have hft:=JZ (m:=m) (zs:=Z) (c:=s3) (by rw[HOL.out];exact g30) (by rw[HOL.out];exact hm2);have HFT:=hid hft;clear hft;go_simp
   exact hK _ _ Br HFT.out
  ·intro A x W hA hW hBW hdep _ K hK;have g33:(fun u W=>Fresh w.heap.size W u (Z.take m)) (x 33) W:=hdep ⟨13,.data⟩ (by simp) rfl _ rfl;have a33:A.tmps.getD 33 undef=x 33:=hA.1 33 (by decide);clear hdep hA;go_simp
   exact hK _ _ Br (a33▸g33)
 intro x W hW hBW hall;obtain⟨e30,e33,e4, -⟩:=hall;change (fun u W=>W.ownsRow w.heap.size 5 1 u 32 (Z.map qo)) (x 30) W at e30
 change (fun u W=>Fresh w.heap.size W u (Z.take m)) (x 33) W at e33
 change (fun u W=>Fresh w.heap.size W u (Z.take m)) (x 4) W at e4
 refine qt ?_;simp only[Qw,Act.put,Ls];have E4:=hid e4;have HW:=hid hW;clear e4 e30 e33 hW;go_wp2
 go_ret2
 exact⟨⟨_,rfl,E4.out⟩,HW.out⟩
def qU (b:List Int)(p:Nat)(zs:List Int):List Int:=b.take p++zs++b.drop (p+zs.length)
theorem qX {b zs:List Int}{p:Nat}(h:p+zs.length≤b.length):(qU b p zs).length=b.length:=by
 simp[qU];omega
theorem yK {b zs:List Int}{p:Nat}(h:p+zs.length≤b.length)(i:Nat):qm (qU b p zs) i=if p≤i∧i<p+zs.length then qm zs (i - p) else qm b i:=by
 unfold qU qm;simp only[Lg];have ht:(b.take p).length=p:=by simp;omega
 by_cases h1:i<p
 ·rw[List.append_assoc,List.getElem?_append_left (by omega),List.getElem?_take,if_pos h1,if_neg (by omega)]
 ·by_cases h2:i<p+zs.length
  ·rw[List.append_assoc,List.getElem?_append_right (by omega),ht,List.getElem?_append_left (by omega),if_pos ⟨by omega,h2⟩]
  ·rw[List.getElem?_append_right (by simp;omega),if_neg (by omega),List.getElem?_drop];congr 2
   simp;omega
theorem Yi (b:List Int)(p:Nat):qU b p []=b:=by simp[qU]
theorem jz {b zs:List Int}{p:Nat}{z:Int}(h:p+zs.length<b.length):qU b p (zs++[z])=(qU b p zs).set (p+zs.length) z:=by
 have ht:(b.take p).length=p:=by simp;omega
 have hs:(b.take p++zs).length=p+zs.length:=by simp;omega
 have hd:b.drop (p+zs.length)=b[p+zs.length]::b.drop (p+zs.length+1):=List.drop_eq_getElem_cons h;unfold qU;rw[hd,List.length_append,List.length_singleton,←Nat.add_assoc,List.set_append_right _ _ (by omega),hs,Nat.sub_self,List.set_cons_zero];simp
def Qo (big x0:Bool)(v:Nat→Nat):Nat→List Int
 | 0=>List.replicate (mB big) 0
 | k+1=>if k+1=7∧x0=true then Qo big x0 v k else qU (Qo big x0 v k) (atB big (k+1)) (qS (v (k+1)) (szB big (k+1)))
theorem Qz (big x0:Bool)(v:Nat→Nat): ∀k,k≤9→(Qo big x0 v k).length=mB big
 | 0,_=>by simp[Qo]
 | k+1,h=>by
  have ih:=Qz big x0 v k (by omega);have hs:=QJ big false (k+1) (by omega) (by omega);have e:szE big false (k+1)=szB big (k+1):=by simp[szE]
  rw[e]at hs;have hm:32≤mB big:=by cases big<;>decide
  rw[Qo];split
  ·exact ih
  ·rw[qX (by rw[qM,ih];omega),ih]
def QH (big:Bool)(v:Nat→Nat)(z1 z2:List Int):List Int:=qU (qU (Qo big (v 7==0) v 9) (2*sB big) z1) (3*sB big) z2
theorem QV {big:Bool}{v:Nat→Nat}{z1 z2:List Int}(h1:z1.length≤sB big)(h2:z2.length≤sB big):(QH big v z1 z2).length=mB big:=by
 have e:=Qz big (v 7==0) v 9 (by omega);have hm:4*sB big=mB big:=by cases big<;>decide
 unfold QH;rw[qX (by rw[qX (by omega)];omega),qX (by omega),e]
def parN (v:Nat→Nat)(sa pe:Value):Value:=yq (v 1:Nat) (v 2:Nat) (v 3:Nat) (v 4:Nat) (v 5:Nat) (v 6:Nat) (v 7:Nat) (v 8:Nat) (v 9:Nat) sa pe
def RowB (w:World)(g:Nat)(b:List Int):Prop:=w.heap[g]? =some (.cells (b.map qo).toArray 5 (0,0))
theorem RowB.cell {w:World}{g:Nat}{b:List Int}(h:RowB w g b){i:Nat}(hi:i<b.length):w.cell? ⟨g,i,none⟩=some (.int .u8 (qm b i)):=by
 rw[qa h i];simp[qo,qm,Lg,hi]
theorem RowB.set {w:World}{g:Nat}{b:List Int}(h:RowB w g b)(i:Nat)(z:Int):RowB (w.setCell ⟨g,i,none⟩ (.int .u8 z)) g (b.set i z):=by
 have:=heap_setCell_same w g i _ _ (.int .u8 z) h
 unfold RowB;rw[this];simp[qo,List.map_set]
theorem qaH (b:List Int)(g n c p k:Nat)(hk:k≤8)(hp:p+k≤b.length)(hn:n=b.length)(hc:n≤c)(hc2:n≤65535)(x:Nat)(hx:(x:Int)≤18446744073709551615)(w:World)(h:RowB w g b):
  Calls Tryz.prog 102 #[.slice (some ⟨g,0,none⟩) n c,.int .i64 (p:Nat),.int .i64 (k:Nat),.int .u64 (x:Nat)] w fun e w'=>e= .returned (.tuple #[])∧RowB w' g (qU b p (qS x k))∧But g w w':=by
 have hgs:g<w.heap.size:=(Ai h).1;have HR:=hid h;have HN:=hid hn;have hpk:(p:Int)+k≤n:=by omega
 have hnn:(n:Int)≤65535:=by omega
 clear h hn;go_enter Tryz.func102,Tryz.ntmps102
 go_wp2_with fail
 go_loopw [8] (fun i wr=> ∃j:Nat,i= .int .i64 (j:Nat)∧j≤k∧RowB wr g (qU b p (qS x j))∧But g w wr) (fun i _=>k - (intOf i).toNat)
 case atStart=>exact⟨0,rfl,Nat.zero_le _,by show RowB w g (qU b p []);rw[Yi];exact HR.out,But.refl _ _⟩
 case round=>
  obtain⟨j,rfl,hj,hrow,hb⟩:=hrel;by_cases hlt:j<k
  ·have hl:(qU b p (qS x j)).length=b.length:=qX (by rw[qM];omega);have hc0:=hrow.cell (i:=p+j) (by have:=HN.out;omega);have hf0:=frozen_of_row wr g (p+j) _ _ hrow;have hg0:g<wr.heap.size:=Nat.lt_of_lt_of_le hgs hb.size;have q:=YY x j;have hst:=hrow.set (p+j) (byt x j);have e:(qU b p (qS x j)).set (p+j) (byt x j)=qU b p (qS x (j+1)):=by
    have e1:=jz (b:=b) (zs:=qS x j) (p:=p) (z:=byt x j) (by rw[qM];omega);rw[qM]at e1;rw[←e1,YX]
   rw[e]at hst;have HST:=hid hst;have HB:=hid hb;generalize qm (qU b p (qS x j)) (p+j)=z0 at hc0;have hjk:(j:Int)<k∧(k:Int)≤8∧0≤(j:Int)∧(p:Int)+j<n:=by omega
   obtain⟨q1,q2,q3,q4⟩:=hjk;clear hst e hl hrow hb;go_wp2
   exact⟨⟨j+1,rfl,by omega,HST.out,HB.out.set _ _⟩,by simp[intOf];omega⟩
  ·obtain rfl:j=k:=by omega
   have HB:=hid hb;have HW:=hid hrow;clear hb hrow;go_wp2
   go_end0
   exact⟨rfl,HW.out,HB.out⟩
def yH (big ext:Bool)(zs:List Int)(f:Nat):Nat:=if f=7∧ext=false then 0 else(QM big ext zs f).toNat
def yp (zs:List Int):List Int:=zs.take (qW zs zs.length)
def yX (big:Bool)(zs:List Int):List Int:=yp ((zs.drop (2*sB big)).take (sB big))
def Yk (big:Bool)(zs:List Int):List Int:=yp ((zs.drop (3*sB big)).take (sB big))
theorem jo {big ext:Bool}{zs:List Int}(hz: ∀z∈zs,0≤z∧z≤255)(hl:zs.length=mB big){f:Nat}(h1:1≤f)(h2:f≤9)(h3: ¬(f=7∧ext=false)):((yH big ext zs f:Nat):Int)=qT zs (atB big f) (szE big ext f):=by
 have hb:=qJ (big:=big) (ext:=ext) hz hl h1 h2;have e:QM big ext zs f=qT zs (atB big f) (szE big ext f):=if_neg (by omega);unfold yH;rw[if_neg h3,Int.toNat_of_nonneg hb.1,e]
theorem qb1 {big ext:Bool}{zs:List Int}(hz: ∀z∈zs,0≤z∧z≤255)(hl:zs.length=mB big)(sa pe:Value):
  parN (yH big ext zs) sa pe=yq (qm zs 0) (qm zs 1) (qm zs 2) (qm zs 3) (qT zs 4 4) (qT zs 8 (szE big ext 6)) (xoZ big ext zs) (qm zs (atB big 8)) (qm zs (atB big 9)) sa pe:=by
 have h:=fun f h1 h2 h3=>jo (big:=big) (ext:=ext) hz hl (f:=f) h1 h2 h3
 unfold parN;rw[h 1 (by omega) (by omega) (by omega),h 2 (by omega) (by omega) (by omega),h 3 (by omega) (by omega) (by omega),h 4 (by omega) (by omega) (by omega),h 5 (by omega) (by omega) (by omega),h 6 (by omega) (by omega) (by omega),h 8 (by omega) (by omega) (by omega),h 9 (by omega) (by omega) (by omega)];have h7:((yH big ext zs 7:Nat):Int)=xoZ big ext zs:=by
  cases ext
  ·rfl
  ·rw[h 7 (by omega) (by omega) (by simp)];cases big<;>rfl
 rw[h7]
 cases big<;>cases ext<;>simp[szE,szB,atB,Yu]
theorem qbk (big:Bool)(zs:List Int)(v:Value)(w:World)(h:Hold w v zs)(hok:okD big false zs):
  Calls Tryz.prog 104 #[.int .i64 (kB big),v,.bool false] w fun e w'=>(∃sa pe,e= .returned (.tuple #[parN (yH big false zs) sa pe,.int .i64 0])∧w'.ownsRow w.heap.size 5 1 sa (yX big zs).length ((yX big zs).map qo)∧w'.ownsRow w.heap.size 5 1 pe (Yk big zs).length ((Yk big zs).map qo))∧Below w.heap.size w w':=by
 obtain⟨a,cap,rfl,hc1,hc2⟩:=h.slice;have hz:=h.1;have h:=h.holds8;obtain⟨hl,hm, -,k0,k1,k3,k9⟩:=hok;obtain⟨a',cap',e,h⟩:=h;simp only[Value.slice.injEq,true_and]at e;obtain⟨rfl,rfl⟩:=e;obtain⟨b,off,rfl,hB⟩:=h.resolve_left (fun e=>by rw[e]at hl;cases big<;>simp[mB]at hl);have hln: ∀p s:Nat,p+s≤zs.length→((zs.drop p).take s).length=s:=fun p s h=>by simp;omega
 have htl: ∀x:List Int,(x.take (qW x x.length)).length=qW x x.length:=fun x=>by have:=zE x x.length;simp;omega
 have hS: ∀(p s:Nat),p+s≤zs.length→(yp ((zs.drop p).take s)).length=qW ((zs.drop p).take s) s∧yp ((zs.drop p).take s)=((zs.drop p).take s).take (qW ((zs.drop p).take s) s):=fun p s h=>by
  have e:=hln p s h;unfold yp;rw[htl,e];exact⟨rfl,rfl⟩
 cases big
 ·have hl':zs.length=32:=hl;rw[hl']at hc1⊢;obtain⟨s1,s2⟩:=hS 16 8 (by omega);obtain⟨s3,s4⟩:=hS 24 8 (by omega);refine(zA zs b off cap w hB hz hc1 hc2 hl' k0 k1.2 (k3 rfl) k9.2).mono ?_;rintro e w' ⟨⟨sa,pe,rfl,o1,o2⟩,hb⟩
  refine⟨⟨sa,pe,congrArg (fun p=>Ending.returned (.tuple #[p,.int .i64 0])) (qb1 (big:=false) (ext:=false) hz hl sa pe).symm,?_,?_⟩,hb⟩
  ·show w'.ownsRow _ _ _ sa (yp ((zs.drop 16).take 8)).length ((yp ((zs.drop 16).take 8)).map qo)
   rw[s1,s2];exact o1
  ·show w'.ownsRow _ _ _ pe (yp ((zs.drop 24).take 8)).length ((yp ((zs.drop 24).take 8)).map qo)
   rw[s3,s4];exact o2
 ·have hl':zs.length=64:=hl;rw[hl']at hc1⊢;obtain⟨s1,s2⟩:=hS 32 16 (by omega);obtain⟨s3,s4⟩:=hS 48 16 (by omega);refine(zR zs b off cap w hB hz hc1 hc2 hl' (hm rfl) k0 k1.2 (k3 rfl) k9.2).mono ?_;rintro e w' ⟨⟨sa,pe,rfl,o1,o2⟩,hb⟩
  refine⟨⟨sa,pe,congrArg (fun p=>Ending.returned (.tuple #[p,.int .i64 0])) (qb1 (big:=true) (ext:=false) hz hl sa pe).symm,?_,?_⟩,hb⟩
  ·show w'.ownsRow _ _ _ sa (yp ((zs.drop 32).take 16)).length ((yp ((zs.drop 32).take 16)).map qo)
   rw[s1,s2];exact o1
  ·show w'.ownsRow _ _ _ pe (yp ((zs.drop 48).take 16)).length ((yp ((zs.drop 48).take 16)).map qo)
   rw[s3,s4];exact o2
structure ParOk (big:Bool)(v:Nat→Nat):Prop where
 p:okP big (v 1:Nat) (v 2:Nat) (v 3:Nat) (v 4:Nat) (v 6:Nat) (v 8:Nat) (v 9:Nat)
 lf:v 5<4294967296
 ofs:v 6<18446744073709551616
 x0:v 7=0
theorem zi {big:Bool}{v:Nat→Nat}(hP:ParOk big v)(a1 a2:Option Addr){l1 l2:Nat}(c1 c2:Nat)(hl1:l1≤sB big)(hl2:l2≤sB big)(w:World):
  Calls Tryz.prog 99 #[.int .i64 (kB big),parN v (.slice a1 l1 c1) (.slice a2 l2 c2)] w fun e w'=>e= .returned (.int .i64 0)∧Below w.heap.size w w':=by
 unfold parN;rw[hP.x0];exact j9 big _ _ _ _ _ _ _ _ a1 a2 l1 l2 c1 c2 w hP.p hl1 hl2
def zK (v:Nat→Nat):Array Value:= #[.int .u64 (v 1:Nat),.int .u64 (v 2:Nat),.int .u64 (v 3:Nat),.int .u64 (v 4:Nat),.int .u64 (v 5:Nat),.int .u64 (v 6:Nat),.int .u64 (v 7:Nat),.int .u64 (v 8:Nat),.int .u64 (v 9:Nat)]
theorem qdB (v:Nat→Nat){k:Nat}(hk:k<9):(zK v)[k]? =some (.int .u64 (v (k+1):Nat)):=by
 rcases(show k=0∨k=1∨k=2∨k=3∨k=4∨k=5∨k=6∨k=7∨k=8 by omega)with rfl|rfl|rfl|rfl|rfl|rfl|rfl|rfl|rfl<;>rfl
theorem ParOk.le {big:Bool}{v:Nat→Nat}(h:ParOk big v): ∀f,1≤f→f≤9→((v f:Nat):Int)≤18446744073709551615:=by
 obtain⟨⟨h1,h2,h3,h4, -,h5,h6⟩,h7,h8,h9⟩:=h;have hm:mB big≤64:=by cases big<;>decide
 intro f f1 f2;rcases(show f=1∨f=2∨f=3∨f=4∨f=5∨f=6∨f=7∨f=8∨f=9 by omega)with rfl|rfl|rfl|rfl|rfl|rfl|rfl|rfl|rfl<;>omega
theorem jj {w w':World}{a:Option Addr}{n c:Nat}{zs:List Int}(h:Hold w (.slice a n c) zs)(hb:Below w.heap.size w w'){j:Nat}(hj:j<zs.length): ∃b off,a=some ⟨b,off,none⟩∧b<w'.heap.size∧w'.cell? ⟨b,off+j,none⟩=some (.int .u8 (qm zs j))∧0≤qm zs j∧qm zs j≤255:=by
 have hne:zs≠[]:=fun e=>by rw[e]at hj;simp at hj
 rcases h.2 with⟨h2, -⟩|⟨ad,cap,e, -, -,h3⟩
 ·exact absurd h2 hne
 ·obtain⟨b,off,rfl,h4,h5⟩:=h3.resolve_left hne;simp only[Value.slice.injEq]at e;exact⟨b,off,e.1,Nat.lt_of_lt_of_le h4 hb.size,(hb.cell (p:=⟨b,off+j,none⟩) h4).trans (h5 j hj),(qL h.1 hj).2⟩
theorem Zf {b zs:List Int}{p j:Nat}(hj:j<zs.length)(h:p+zs.length≤b.length):(qU b p (zs.take j)).set (p+j) (qm zs j)=qU b p (zs.take (j+1)):=by
 have e:(zs.take j).length=j:=by simp;omega
 rw[Ze hj,jz (by omega),e]
theorem zQ (v:Nat→Nat)(z1 z2:List Int)(sa pe:Value)(w:World)(hP:ParOk true v)(h1:Hold w sa z1)(h2:Hold w pe z2)(hl1:z1.length≤16)(hl2:z2.length≤16):
  Calls Tryz.prog 80 #[.int .i64 1,parN v sa pe] w fun e w'=>(∃r,e= .returned (.tuple #[r,.int .i64 0])∧w'.ownsRow w.heap.size 5 1 r 64 ((QH true v z1 z2).map qo))∧Below w.heap.size w w':=by
 obtain⟨a1,c1,rfl,hx1,hx2⟩:=h1.slice;obtain⟨a2,c2,rfl,hx3,hx4⟩:=h2.slice;obtain⟨i0,hi,hz0,hz1,hz2⟩:=info_parts Qg;obtain⟨b0,hb0⟩:=Ex w.heap.size;have HCK:=hid (zi hP a1 a2 c1 c2 hl1 hl2);have HX0:=hid hP.x0;have HLE:=hid hP.le;have hv5:((v 5:Nat):Int)<4294967296:=by have:=hP.lf;omega
 have hv7:((v 7:Nat):Int)<4294967296:=by have:=hP.x0;omega
 have hvw: ∀f,1≤f→f≤9→IntKind.u64.wrap ((v f:Nat):Int)=((v f:Nat):Int):=fun f f1 f2=>u64_wrap_id _ (by omega) (by have:=HLE.out f f1 f2;omega)
 have ww1:=hvw 1 (by omega) (by omega);have ww2:=hvw 2 (by omega) (by omega);have ww3:=hvw 3 (by omega) (by omega);have ww4:=hvw 4 (by omega) (by omega);have ww5:=hvw 5 (by omega) (by omega);have ww7:=hvw 7 (by omega) (by omega);have ww8:=hvw 8 (by omega) (by omega);have ww9:=hvw 9 (by omega) (by omega);have hbA:Below b0 w (w.alloc (.cells #[.int .i64 (v 1:Nat),.int .i64 (v 2:Nat),.int .i64 (v 3:Nat),.int .i64 (v 4:Nat),.int .u32 (v 5:Nat),.int .u64 (v 6:Nat),.int .u32 (v 7:Nat),.int .i64 (v 8:Nat),.int .i64 (v 9:Nat),.slice a1 z1.length c1,.slice a2 z2.length c2] 72)):=by rw[←hb0];exact Br.alloc Nl _
 have hrA:=Wn w (.cells #[.int .i64 (v 1:Nat),.int .i64 (v 2:Nat),.int .i64 (v 3:Nat),.int .i64 (v 4:Nat),.int .u32 (v 5:Nat),.int .u64 (v 6:Nat),.int .u32 (v 7:Nat),.int .i64 (v 8:Nat),.int .i64 (v 9:Nat),.slice a1 z1.length c1,.slice a2 z2.length c2] 72);rw[hb0]at hrA;have HH1:=hid h1;have HH2:=hid h2;have HHP:=hid hP;clear hP h1 h2 hvw hx1 hx2 hx3 hx4;unfold parN yq;unfold parN yq at HCK;go_enter Tryz.func80,Tryz.ntmps80
 go_upto_region 1 with(fail)
 generalize w.alloc (.cells #[.int .i64 (v 1:Nat),.int .i64 (v 2:Nat),.int .i64 (v 3:Nat),.int .i64 (v 4:Nat),.int .u32 (v 5:Nat),.int .u64 (v 6:Nat),.int .u32 (v 7:Nat),.int .i64 (v 8:Nat),.int .i64 (v 9:Nat),.slice a1 z1.length c1,.slice a2 z2.length c2] 72)=wA at*;go_wp2_with ((with_reducible show wpList _ _ _ (Oper.mk _ (Op.load 72 _) _ _ _ _::_) _ _);refine wpList_load_row rfl 72 _ rfl b0 rfl _ _ _ _ hrA Tryz.underlying72 rfl (by kernel_rfl) ?_)
 refine(HCK.out wA).mono ?_;rintro e w1 ⟨rfl,hb1⟩;have hr1:=qe hrA hb1;have hs1:=hb1.size;have hb0A:b0<wA.heap.size:=(Ai hrA).1;have hb01:b0<w1.heap.size:=by omega
 have hbB:Below b0 w w1:=hbA.trans (hb1.mono (by omega));have d0:w1.cell? ⟨b0,0,none⟩=some (.int .i64 (v 1:Nat)):=qa hr1 0;have d1:w1.cell? ⟨b0,1,none⟩=some (.int .i64 (v 2:Nat)):=qa hr1 1;have d2:w1.cell? ⟨b0,2,none⟩=some (.int .i64 (v 3:Nat)):=qa hr1 2;have d3:w1.cell? ⟨b0,3,none⟩=some (.int .i64 (v 4:Nat)):=qa hr1 3;have d4:w1.cell? ⟨b0,4,none⟩=some (.int .u32 (v 5:Nat)):=qa hr1 4;have d5:w1.cell? ⟨b0,5,none⟩=some (.int .u64 (v 6:Nat)):=qa hr1 5;have d6:w1.cell? ⟨b0,6,none⟩=some (.int .u32 (v 7:Nat)):=qa hr1 6;have d7:w1.cell? ⟨b0,7,none⟩=some (.int .i64 (v 8:Nat)):=qa hr1 7;have d8:w1.cell? ⟨b0,8,none⟩=some (.int .i64 (v 9:Nat)):=qa hr1 8;have HR1:=hid hr1;have HBB:=hid hbB;clear hb1 hbA hrA hr1 hbB hs1 hb0A;go_wp2_with fail
 refine(ZU true _).mono ?_;rintro e w2 ⟨rfl,hw⟩;rw[hw];clear hw;rw[show((mB true:Nat):Int)=64 from rfl];have hmk:=fun W:World=>run_make (P:=Tryz.prog) W 24 5 i0 (.int .u8 0) Tryz.underlying24 hi hz0 .i64 .i64 64 64 (by omega) (by omega) (by rw[hz2];omega) (by omega)
 simp only[hz1]at hmk;go_wp2_with fail
 obtain⟨g,hg⟩:=Ex w1.heap.size;have hmc:madeCells #[.int .u8 0] 64=((List.replicate 64 (0:Int)).map qo).toArray:=by
  apply Array.toList_inj.1
  rw[toList_madeCells_one];simp[qo]
 have hw5:((w1.alloc (.cells (madeCells #[.int .u8 0] 64) 5)).alloc (.cells (zK v) 54)).heap.size=g+2:=by simp[hg]
 have hg5:RowB ((w1.alloc (.cells (madeCells #[.int .u8 0] 64) 5)).alloc (.cells (zK v) 54)) g (Qo true (v 7==0) v 0):=by
  unfold RowB;rw[Bh _ _ _ (by simp[hg]),hmc,←hg];exact Wn _ _
 have hv5':((w1.alloc (.cells (madeCells #[.int .u8 0] 64) 5)).alloc (.cells (zK v) 54)).heap[g+1]? =some (.cells (zK v) 54 (0,0)):=by
  rw[show g+1=(w1.alloc (.cells (madeCells #[.int .u8 0] 64) 5)).heap.size by simp[hg]];exact Wn _ _
 have hr5:((w1.alloc (.cells (madeCells #[.int .u8 0] 64) 5)).alloc (.cells (zK v) 54)).heap[b0]? =some (.cells #[.int .i64 (v 1:Nat),.int .i64 (v 2:Nat),.int .i64 (v 3:Nat),.int .i64 (v 4:Nat),.int .u32 (v 5:Nat),.int .u64 (v 6:Nat),.int .u32 (v 7:Nat),.int .i64 (v 8:Nat),.int .i64 (v 9:Nat),.slice a1 z1.length c1,.slice a2 z2.length c2] 72 (0,0)):=by
  rw[Bh _ _ _ (by simp;omega),Bh _ _ _ (by omega)];exact HR1.out
 have hb5:Below b0 w ((w1.alloc (.cells (madeCells #[.int .u8 0] 64) 5)).alloc (.cells (zK v) 54)):=(HBB.out.alloc (by omega) _).alloc (by simp;omega) _;change Code.wp _ _ _ _ ((w1.alloc (.cells (madeCells #[.int .u8 0] 64) 5)).alloc (.cells (zK v) 54))
 rw[hg];have hgb:b0<g:=by omega
 generalize ((w1.alloc (.cells (madeCells #[.int .u8 0] 64) 5)).alloc (.cells (zK v) 54))=W5 at*;have HG5:=hid hg5;have HV5R:=hid hv5';have HR5:=hid hr5;have HB5:=hid hb5;clear hg5 hv5' hr5 hb5 hmc hmk HR1 HBB hg d0 d1 d2 d3 d4 d5 d6 d7 d8 ww1 ww2 ww3 ww4 ww5 ww7 ww8 ww9;go_loopw [9] (fun f wr=> ∃n k:Nat,f= .int .i64 (n:Nat)∧n=k+1∧k≤9∧RowB wr g (Qo true (v 7==0) v k)∧But g W5 wr) (fun f _=>10 - (intOf f).toNat)
 case atStart=>exact⟨1,0,rfl,rfl,by omega,HG5.out,But.refl _ _⟩
 case round=>
  obtain⟨n,k,rfl,hnk,hk,hrow,hb⟩:=hrel;have HNK:=hid hnk;have HROW:=hid hrow;have HB:=hid hb;have hgs:g+1<wr.heap.size:=by have:=hb.size;omega
  have c6:wr.cell? ⟨b0,6,none⟩=some (.int .u32 (v 7:Nat)):=qa ((hb.block b0 (by omega) (by omega)).trans HR5.out) 6;have hb0s:b0<wr.heap.size:=by omega
  have hlen:=Qz true (v 7==0) v k hk;by_cases hlt:k<9
  case pos=>
   have hn9:(n:Int)≤9:=by omega
   have hn1:1≤(n:Int):=by omega
   have hfk:(n:Int) - 1=(k:Nat):=by omega
   have cv:wr.cell? ⟨g+1,k,none⟩=some (.int .u64 (v (k+1):Nat)):=(qa ((hb.block (g+1) (by omega) (by omega)).trans HV5R.out) k).trans (qdB v hlt);rw[←hnk]at cv;have hk9:(k:Int)<9:=by omega
   have HPL:=hid (Zr true n ⟨by omega,by omega⟩);have hsz:=QJ true false n (by omega) (by omega);rw[show szE true false n=szB true n by simp[szE]]at hsz;have HL:=hid (qaH (Qo true (v 7==0) v k) g 64 64 (atB true n) (szB true n) (by omega) (by rw[hlen];show _≤64;have:=hsz.2.2.2;omega) (by rw[hlen];rfl) Nl (by decide) (v n) (HLE.out n (by omega) (by omega)) wr hrow);have hstep: ¬(k+1=7∧(v 7==0)=true)→Qo true (v 7==0) v (k+1)=qU (Qo true (v 7==0) v k) (atB true n) (qS (v n) (szB true n)):=fun h=>by rw[Qo,if_neg h,hnk]
   have HST:=hid hstep;clear hstep hrow hb hnk hsz hlen;by_cases h7:k=6
   case pos=>
    obtain rfl:n=7:=by have:=HNK.out;omega
    subst h7;clear hfk hk9;have hq:((v 7:Int)==0)=true:=by rw[HX0.out];rfl
    go_wp2
    refine⟨⟨8,7,rfl,rfl,by omega,?_,HB.out⟩,by simp[intOf]⟩;have e:Qo true (v 7==0) v 7=Qo true (v 7==0) v 6:=by rw[Qo,if_pos ⟨rfl,by rw[HX0.out];rfl⟩]
    rw[e];exact HROW.out
   have h8: ¬((n:Int)=7):=by have:=HNK.out;omega
   have h9: ¬(n=7):=by have:=HNK.out;omega
   go_wp2_with fail
   refine(HPL.out _).mono ?_;rintro r w4 ⟨rfl,hw⟩;rw[hw];clear hw;go_wp2_with fail
   refine HL.out.mono ?_;rintro r w4 ⟨rfl,hl1,hl2⟩;have HL1:=hid hl1;have HL2:=hid hl2;clear hl1 hl2 c6 cv;go_wp2
   refine⟨⟨n+1,k+1,rfl,by rw[HNK.out],by omega,by rw[HST.out (fun h=>h7 (by omega))];exact HL1.out,HB.out.trans HL2.out⟩,by simp[intOf];omega⟩
  obtain rfl:k=9:=by omega
  obtain rfl:n=10:=by have:=HNK.out;omega
  clear hlen hrow hb hnk;clear c6 HNK hlt;have hEl:=Qz true (v 7==0) v 9 (by omega);have HBL:=hid (show QH true v z1 z2=qU (qU (Qo true (v 7==0) v 9) 32 z1) 48 z2 from rfl);generalize Qo true (v 7==0) v 9=E at*;have hEl':E.length=64:=hEl;have HEL:=hid hEl';have HL1:=hid hl1;have HL2:=hid hl2;clear hEl hEl' hk hv5 hv7;go_wp2_with fail
  refine(yB true _).mono ?_;rintro r w4 ⟨rfl,hw⟩;rw[hw];clear hw;rw[show((mB true:Nat):Int)=64 from rfl];go_wp2_with fail
  have HPL0:=HEL;go_loopw [13] (fun i wr=> ∃j:Nat,i= .int .i64 (j:Nat)∧j≤z1.length∧RowB wr g (qU E 32 (z1.take j))∧But g W5 wr) (fun i _=>z1.length - (intOf i).toNat)
  case atStart=>exact⟨0,rfl,Nat.zero_le _,by rw[List.take_zero,Yi];exact HROW.out,HB.out⟩
  case round=>
   clear HB HROW hgs hb0s;obtain⟨j,rfl,hj,hrow,hb⟩:=hrel;have HROW:=hid hrow;have HB:=hid hb;have hgs:g+1<wr.heap.size:=by have:=hb.size;omega
   have hb0s:b0<wr.heap.size:=by omega
   have hgs0:g<wr.heap.size:=by omega
   have cz:wr.cell? ⟨b0,9,none⟩=some (.slice a1 z1.length c1):=qa ((hb.block b0 (by omega) (by omega)).trans HR5.out) 9;by_cases hlt:j<z1.length
   case pos=>
    obtain⟨bb,of',rfl,q1,q2,q3,q4⟩:=jj HH1.out (hb0▸HB5.out.trans (hb.below (by omega) (by omega))) hlt;have hst:=hrow.set (32+j) (qm z1 j);rw[Zf hlt (by have:=HEL.out;have:=HL1.out;omega)]at hst;have HST:=hid hst;have hlen:(qU E 32 (z1.take j)).length=64:=by rw[qX (by rw[List.length_take];have:=HPL0.out;have:=HL1.out;have:=HL2.out;omega)];exact HPL0.out
    have co:=hrow.cell (i:=32+j) (by rw[hlen];have:=HL1.out;have:=HL2.out;omega);have fo:=frozen_of_row wr g (32+j) _ _ hrow;generalize qm (qU E 32 (z1.take j)) (32+j)=zo at co;generalize qm z1 j=zj at*;have hjs:(j:Int)<16:=by have:=HL1.out;have:=HL2.out;omega
    clear hst hlen hrow hb;go_wp2
    exact⟨⟨j+1,rfl,by omega,HST.out,HB.out.set _ _⟩,by simp[intOf];omega⟩
   obtain rfl:j=z1.length:=by omega
   rw[List.take_length]at HROW;clear hrow hb;clear hj hlt HPL0;have HPL0:=hid (show(qU E 32 z1).length=64 from by rw[qX (by have:=HEL.out;have:=HL1.out;omega)];exact HEL.out);go_wp2_with fail
   clear cz hgs0;go_loopw [14] (fun i wr=> ∃j:Nat,i= .int .i64 (j:Nat)∧j≤z2.length∧RowB wr g (qU (qU E 32 z1) 48 (z2.take j))∧But g W5 wr) (fun i _=>z2.length - (intOf i).toNat)
   case atStart=>exact⟨0,rfl,Nat.zero_le _,by rw[List.take_zero,Yi];exact HROW.out,HB.out⟩
   case round=>
    clear HB HROW hgs hb0s;obtain⟨j,rfl,hj,hrow,hb⟩:=hrel;have HROW:=hid hrow;have HB:=hid hb;have hgs:g+1<wr.heap.size:=by have:=hb.size;omega
    have hb0s:b0<wr.heap.size:=by omega
    have hgs0:g<wr.heap.size:=by omega
    have cz:wr.cell? ⟨b0,10,none⟩=some (.slice a2 z2.length c2):=qa ((hb.block b0 (by omega) (by omega)).trans HR5.out) 10;by_cases hlt:j<z2.length
    case pos=>
     obtain⟨bb,of',rfl,q1,q2,q3,q4⟩:=jj HH2.out (hb0▸HB5.out.trans (hb.below (by omega) (by omega))) hlt;have hst:=hrow.set (48+j) (qm z2 j);rw[Zf hlt (by have:=HPL0.out;have:=HL2.out;omega)]at hst;have HST:=hid hst;have hlen:(qU (qU E 32 z1) 48 (z2.take j)).length=64:=by rw[qX (by rw[List.length_take];have:=HPL0.out;have:=HL1.out;have:=HL2.out;omega)];exact HPL0.out
     have co:=hrow.cell (i:=48+j) (by rw[hlen];have:=HL1.out;have:=HL2.out;omega);have fo:=frozen_of_row wr g (48+j) _ _ hrow;generalize qm (qU (qU E 32 z1) 48 (z2.take j)) (48+j)=zo at co;generalize qm z2 j=zj at*;have hjs:(j:Int)<16:=by have:=HL1.out;have:=HL2.out;omega
     clear hst hlen hrow hb;go_wp2
     exact⟨⟨j+1,rfl,by omega,HST.out,HB.out.set _ _⟩,by simp[intOf];omega⟩
    obtain rfl:j=z2.length:=by omega
    rw[List.take_length]at HROW;clear hrow hb;clear hj hlt;go_wp2
    go_ret2
    refine⟨⟨_,rfl,?_⟩,by rw[hb0];exact HB5.out.trans (HB.out.below (by omega) (by omega))⟩;have hbl:=QV (big:=true) (v:=v) HL1.out HL2.out;refine⟨by rw[List.length_map,hbl];rfl,.inr ⟨g,64,_,rfl,by omega,HROW.out,Nat.le_refl _,by unfold maxLen;omega,?_,?_⟩⟩
    ·rw[List.size_toArray,List.length_map,←HBL.out,hbl];rfl
    ·rw[←HBL.out];exact List.take_of_length_le (by rw[List.length_map,hbl];decide)
theorem zt (v:Nat→Nat)(z1 z2:List Int)(sa pe:Value)(w:World)(hP:ParOk false v)(h1:Hold w sa z1)(h2:Hold w pe z2)(hl1:z1.length≤8)(hl2:z2.length≤8):
  Calls Tryz.prog 80 #[.int .i64 2,parN v sa pe] w fun e w'=>(∃r,e= .returned (.tuple #[r,.int .i64 0])∧w'.ownsRow w.heap.size 5 1 r 32 ((QH false v z1 z2).map qo))∧Below w.heap.size w w':=by
 obtain⟨a1,c1,rfl,hx1,hx2⟩:=h1.slice;obtain⟨a2,c2,rfl,hx3,hx4⟩:=h2.slice;obtain⟨i0,hi,hz0,hz1,hz2⟩:=info_parts Qg;obtain⟨b0,hb0⟩:=Ex w.heap.size;have HCK:=hid (zi hP a1 a2 c1 c2 hl1 hl2);have HX0:=hid hP.x0;have HLE:=hid hP.le;have hv5:((v 5:Nat):Int)<4294967296:=by have:=hP.lf;omega
 have hv7:((v 7:Nat):Int)<4294967296:=by have:=hP.x0;omega
 have hvw: ∀f,1≤f→f≤9→IntKind.u64.wrap ((v f:Nat):Int)=((v f:Nat):Int):=fun f f1 f2=>u64_wrap_id _ (by omega) (by have:=HLE.out f f1 f2;omega)
 have ww1:=hvw 1 (by omega) (by omega);have ww2:=hvw 2 (by omega) (by omega);have ww3:=hvw 3 (by omega) (by omega);have ww4:=hvw 4 (by omega) (by omega);have ww5:=hvw 5 (by omega) (by omega);have ww7:=hvw 7 (by omega) (by omega);have ww8:=hvw 8 (by omega) (by omega);have ww9:=hvw 9 (by omega) (by omega);have hbA:Below b0 w (w.alloc (.cells #[.int .i64 (v 1:Nat),.int .i64 (v 2:Nat),.int .i64 (v 3:Nat),.int .i64 (v 4:Nat),.int .u32 (v 5:Nat),.int .u64 (v 6:Nat),.int .u32 (v 7:Nat),.int .i64 (v 8:Nat),.int .i64 (v 9:Nat),.slice a1 z1.length c1,.slice a2 z2.length c2] 72)):=by rw[←hb0];exact Br.alloc Nl _
 have hrA:=Wn w (.cells #[.int .i64 (v 1:Nat),.int .i64 (v 2:Nat),.int .i64 (v 3:Nat),.int .i64 (v 4:Nat),.int .u32 (v 5:Nat),.int .u64 (v 6:Nat),.int .u32 (v 7:Nat),.int .i64 (v 8:Nat),.int .i64 (v 9:Nat),.slice a1 z1.length c1,.slice a2 z2.length c2] 72);rw[hb0]at hrA;have HH1:=hid h1;have HH2:=hid h2;have HHP:=hid hP;clear hP h1 h2 hvw hx1 hx2 hx3 hx4;unfold parN yq;unfold parN yq at HCK;go_enter Tryz.func80,Tryz.ntmps80
 go_upto_region 1 with(fail)
 generalize w.alloc (.cells #[.int .i64 (v 1:Nat),.int .i64 (v 2:Nat),.int .i64 (v 3:Nat),.int .i64 (v 4:Nat),.int .u32 (v 5:Nat),.int .u64 (v 6:Nat),.int .u32 (v 7:Nat),.int .i64 (v 8:Nat),.int .i64 (v 9:Nat),.slice a1 z1.length c1,.slice a2 z2.length c2] 72)=wA at*;go_wp2_with ((with_reducible show wpList _ _ _ (Oper.mk _ (Op.load 72 _) _ _ _ _::_) _ _);refine wpList_load_row rfl 72 _ rfl b0 rfl _ _ _ _ hrA Tryz.underlying72 rfl (by kernel_rfl) ?_)
 refine(HCK.out wA).mono ?_;rintro e w1 ⟨rfl,hb1⟩;have hr1:=qe hrA hb1;have hs1:=hb1.size;have hb0A:b0<wA.heap.size:=(Ai hrA).1;have hb01:b0<w1.heap.size:=by omega
 have hbB:Below b0 w w1:=hbA.trans (hb1.mono (by omega));have d0:w1.cell? ⟨b0,0,none⟩=some (.int .i64 (v 1:Nat)):=qa hr1 0;have d1:w1.cell? ⟨b0,1,none⟩=some (.int .i64 (v 2:Nat)):=qa hr1 1;have d2:w1.cell? ⟨b0,2,none⟩=some (.int .i64 (v 3:Nat)):=qa hr1 2;have d3:w1.cell? ⟨b0,3,none⟩=some (.int .i64 (v 4:Nat)):=qa hr1 3;have d4:w1.cell? ⟨b0,4,none⟩=some (.int .u32 (v 5:Nat)):=qa hr1 4;have d5:w1.cell? ⟨b0,5,none⟩=some (.int .u64 (v 6:Nat)):=qa hr1 5;have d6:w1.cell? ⟨b0,6,none⟩=some (.int .u32 (v 7:Nat)):=qa hr1 6;have d7:w1.cell? ⟨b0,7,none⟩=some (.int .i64 (v 8:Nat)):=qa hr1 7;have d8:w1.cell? ⟨b0,8,none⟩=some (.int .i64 (v 9:Nat)):=qa hr1 8;have HR1:=hid hr1;have HBB:=hid hbB;clear hb1 hbA hrA hr1 hbB hs1 hb0A;go_wp2_with fail
 refine(ZU false _).mono ?_;rintro e w2 ⟨rfl,hw⟩;rw[hw];clear hw;rw[show((mB false:Nat):Int)=32 from rfl];have hmk:=fun W:World=>run_make (P:=Tryz.prog) W 24 5 i0 (.int .u8 0) Tryz.underlying24 hi hz0 .i64 .i64 32 32 (by omega) (by omega) (by rw[hz2];omega) (by omega)
 simp only[hz1]at hmk;go_wp2_with fail
 obtain⟨g,hg⟩:=Ex w1.heap.size;have hmc:madeCells #[.int .u8 0] 32=((List.replicate 32 (0:Int)).map qo).toArray:=by
  apply Array.toList_inj.1
  rw[toList_madeCells_one];simp[qo]
 have hw5:((w1.alloc (.cells (madeCells #[.int .u8 0] 32) 5)).alloc (.cells (zK v) 54)).heap.size=g+2:=by simp[hg]
 have hg5:RowB ((w1.alloc (.cells (madeCells #[.int .u8 0] 32) 5)).alloc (.cells (zK v) 54)) g (Qo false (v 7==0) v 0):=by
  unfold RowB;rw[Bh _ _ _ (by simp[hg]),hmc,←hg];exact Wn _ _
 have hv5':((w1.alloc (.cells (madeCells #[.int .u8 0] 32) 5)).alloc (.cells (zK v) 54)).heap[g+1]? =some (.cells (zK v) 54 (0,0)):=by
  rw[show g+1=(w1.alloc (.cells (madeCells #[.int .u8 0] 32) 5)).heap.size by simp[hg]];exact Wn _ _
 have hr5:((w1.alloc (.cells (madeCells #[.int .u8 0] 32) 5)).alloc (.cells (zK v) 54)).heap[b0]? =some (.cells #[.int .i64 (v 1:Nat),.int .i64 (v 2:Nat),.int .i64 (v 3:Nat),.int .i64 (v 4:Nat),.int .u32 (v 5:Nat),.int .u64 (v 6:Nat),.int .u32 (v 7:Nat),.int .i64 (v 8:Nat),.int .i64 (v 9:Nat),.slice a1 z1.length c1,.slice a2 z2.length c2] 72 (0,0)):=by
  rw[Bh _ _ _ (by simp;omega),Bh _ _ _ (by omega)];exact HR1.out
 have hb5:Below b0 w ((w1.alloc (.cells (madeCells #[.int .u8 0] 32) 5)).alloc (.cells (zK v) 54)):=(HBB.out.alloc (by omega) _).alloc (by simp;omega) _;change Code.wp _ _ _ _ ((w1.alloc (.cells (madeCells #[.int .u8 0] 32) 5)).alloc (.cells (zK v) 54))
 rw[hg];have hgb:b0<g:=by omega
 generalize ((w1.alloc (.cells (madeCells #[.int .u8 0] 32) 5)).alloc (.cells (zK v) 54))=W5 at*;have HG5:=hid hg5;have HV5R:=hid hv5';have HR5:=hid hr5;have HB5:=hid hb5;clear hg5 hv5' hr5 hb5 hmc hmk HR1 HBB hg d0 d1 d2 d3 d4 d5 d6 d7 d8 ww1 ww2 ww3 ww4 ww5 ww7 ww8 ww9;go_loopw [9] (fun f wr=> ∃n k:Nat,f= .int .i64 (n:Nat)∧n=k+1∧k≤9∧RowB wr g (Qo false (v 7==0) v k)∧But g W5 wr) (fun f _=>10 - (intOf f).toNat)
 case atStart=>exact⟨1,0,rfl,rfl,by omega,HG5.out,But.refl _ _⟩
 case round=>
  obtain⟨n,k,rfl,hnk,hk,hrow,hb⟩:=hrel;have HNK:=hid hnk;have HROW:=hid hrow;have HB:=hid hb;have hgs:g+1<wr.heap.size:=by have:=hb.size;omega
  have c6:wr.cell? ⟨b0,6,none⟩=some (.int .u32 (v 7:Nat)):=qa ((hb.block b0 (by omega) (by omega)).trans HR5.out) 6;have hb0s:b0<wr.heap.size:=by omega
  have hlen:=Qz false (v 7==0) v k hk;by_cases hlt:k<9
  case pos=>
   have hn9:(n:Int)≤9:=by omega
   have hn1:1≤(n:Int):=by omega
   have hfk:(n:Int) - 1=(k:Nat):=by omega
   have cv:wr.cell? ⟨g+1,k,none⟩=some (.int .u64 (v (k+1):Nat)):=(qa ((hb.block (g+1) (by omega) (by omega)).trans HV5R.out) k).trans (qdB v hlt);rw[←hnk]at cv;have hk9:(k:Int)<9:=by omega
   have HPL:=hid (Zr false n ⟨by omega,by omega⟩);have hsz:=QJ false false n (by omega) (by omega);rw[show szE false false n=szB false n by simp[szE]]at hsz;have HL:=hid (qaH (Qo false (v 7==0) v k) g 32 32 (atB false n) (szB false n) (by omega) (by rw[hlen];show _≤32;have:=hsz.2.2.2;have:=this rfl;omega) (by rw[hlen];rfl) Nl (by decide) (v n) (HLE.out n (by omega) (by omega)) wr hrow);have hstep: ¬(k+1=7∧(v 7==0)=true)→Qo false (v 7==0) v (k+1)=qU (Qo false (v 7==0) v k) (atB false n) (qS (v n) (szB false n)):=fun h=>by rw[Qo,if_neg h,hnk]
   have HST:=hid hstep;clear hstep hrow hb hnk hsz hlen;by_cases h7:k=6
   case pos=>
    obtain rfl:n=7:=by have:=HNK.out;omega
    subst h7;clear hfk hk9;have hq:((v 7:Int)==0)=true:=by rw[HX0.out];rfl
    go_wp2
    refine⟨⟨8,7,rfl,rfl,by omega,?_,HB.out⟩,by simp[intOf]⟩;have e:Qo false (v 7==0) v 7=Qo false (v 7==0) v 6:=by rw[Qo,if_pos ⟨rfl,by rw[HX0.out];rfl⟩]
    rw[e];exact HROW.out
   have h8: ¬((n:Int)=7):=by have:=HNK.out;omega
   have h9: ¬(n=7):=by have:=HNK.out;omega
   go_wp2_with fail
   refine(HPL.out _).mono ?_;rintro r w4 ⟨rfl,hw⟩;rw[hw];clear hw;go_wp2_with fail
   refine HL.out.mono ?_;rintro r w4 ⟨rfl,hl1,hl2⟩;have HL1:=hid hl1;have HL2:=hid hl2;clear hl1 hl2 c6 cv;go_wp2
   refine⟨⟨n+1,k+1,rfl,by rw[HNK.out],by omega,by rw[HST.out (fun h=>h7 (by omega))];exact HL1.out,HB.out.trans HL2.out⟩,by simp[intOf];omega⟩
  obtain rfl:k=9:=by omega
  obtain rfl:n=10:=by have:=HNK.out;omega
  clear hlen hrow hb hnk;clear c6 HNK hlt;have hEl:=Qz false (v 7==0) v 9 (by omega);have HBL:=hid (show QH false v z1 z2=qU (qU (Qo false (v 7==0) v 9) 16 z1) 24 z2 from rfl);generalize Qo false (v 7==0) v 9=E at*;have hEl':E.length=32:=hEl;have HEL:=hid hEl';have HL1:=hid hl1;have HL2:=hid hl2;clear hEl hEl' hk hv5 hv7;go_wp2_with fail
  refine(yB false _).mono ?_;rintro r w4 ⟨rfl,hw⟩;rw[hw];clear hw;rw[show((mB false:Nat):Int)=32 from rfl];go_wp2_with fail
  have HPL0:=HEL;go_loopw [13] (fun i wr=> ∃j:Nat,i= .int .i64 (j:Nat)∧j≤z1.length∧RowB wr g (qU E 16 (z1.take j))∧But g W5 wr) (fun i _=>z1.length - (intOf i).toNat)
  case atStart=>exact⟨0,rfl,Nat.zero_le _,by rw[List.take_zero,Yi];exact HROW.out,HB.out⟩
  case round=>
   clear HB HROW hgs hb0s;obtain⟨j,rfl,hj,hrow,hb⟩:=hrel;have HROW:=hid hrow;have HB:=hid hb;have hgs:g+1<wr.heap.size:=by have:=hb.size;omega
   have hb0s:b0<wr.heap.size:=by omega
   have hgs0:g<wr.heap.size:=by omega
   have cz:wr.cell? ⟨b0,9,none⟩=some (.slice a1 z1.length c1):=qa ((hb.block b0 (by omega) (by omega)).trans HR5.out) 9;by_cases hlt:j<z1.length
   case pos=>
    obtain⟨bb,of',rfl,q1,q2,q3,q4⟩:=jj HH1.out (hb0▸HB5.out.trans (hb.below (by omega) (by omega))) hlt;have hst:=hrow.set (16+j) (qm z1 j);rw[Zf hlt (by have:=HEL.out;have:=HL1.out;omega)]at hst;have HST:=hid hst;have hlen:(qU E 16 (z1.take j)).length=32:=by rw[qX (by rw[List.length_take];have:=HPL0.out;have:=HL1.out;have:=HL2.out;omega)];exact HPL0.out
    have co:=hrow.cell (i:=16+j) (by rw[hlen];have:=HL1.out;have:=HL2.out;omega);have fo:=frozen_of_row wr g (16+j) _ _ hrow;generalize qm (qU E 16 (z1.take j)) (16+j)=zo at co;generalize qm z1 j=zj at*;have hjs:(j:Int)<8:=by have:=HL1.out;have:=HL2.out;omega
    clear hst hlen hrow hb;go_wp2
    exact⟨⟨j+1,rfl,by omega,HST.out,HB.out.set _ _⟩,by simp[intOf];omega⟩
   obtain rfl:j=z1.length:=by omega
   rw[List.take_length]at HROW;clear hrow hb;clear hj hlt HPL0;have HPL0:=hid (show(qU E 16 z1).length=32 from by rw[qX (by have:=HEL.out;have:=HL1.out;omega)];exact HEL.out);go_wp2_with fail
   clear cz hgs0;go_loopw [14] (fun i wr=> ∃j:Nat,i= .int .i64 (j:Nat)∧j≤z2.length∧RowB wr g (qU (qU E 16 z1) 24 (z2.take j))∧But g W5 wr) (fun i _=>z2.length - (intOf i).toNat)
   case atStart=>exact⟨0,rfl,Nat.zero_le _,by rw[List.take_zero,Yi];exact HROW.out,HB.out⟩
   case round=>
    clear HB HROW hgs hb0s;obtain⟨j,rfl,hj,hrow,hb⟩:=hrel;have HROW:=hid hrow;have HB:=hid hb;have hgs:g+1<wr.heap.size:=by have:=hb.size;omega
    have hb0s:b0<wr.heap.size:=by omega
    have hgs0:g<wr.heap.size:=by omega
    have cz:wr.cell? ⟨b0,10,none⟩=some (.slice a2 z2.length c2):=qa ((hb.block b0 (by omega) (by omega)).trans HR5.out) 10;by_cases hlt:j<z2.length
    case pos=>
     obtain⟨bb,of',rfl,q1,q2,q3,q4⟩:=jj HH2.out (hb0▸HB5.out.trans (hb.below (by omega) (by omega))) hlt;have hst:=hrow.set (24+j) (qm z2 j);rw[Zf hlt (by have:=HPL0.out;have:=HL2.out;omega)]at hst;have HST:=hid hst;have hlen:(qU (qU E 16 z1) 24 (z2.take j)).length=32:=by rw[qX (by rw[List.length_take];have:=HPL0.out;have:=HL1.out;have:=HL2.out;omega)];exact HPL0.out
     have co:=hrow.cell (i:=24+j) (by rw[hlen];have:=HL1.out;have:=HL2.out;omega);have fo:=frozen_of_row wr g (24+j) _ _ hrow;generalize qm (qU (qU E 16 z1) 24 (z2.take j)) (24+j)=zo at co;generalize qm z2 j=zj at*;have hjs:(j:Int)<8:=by have:=HL1.out;have:=HL2.out;omega
     clear hst hlen hrow hb;go_wp2
     exact⟨⟨j+1,rfl,by omega,HST.out,HB.out.set _ _⟩,by simp[intOf];omega⟩
    obtain rfl:j=z2.length:=by omega
    rw[List.take_length]at HROW;clear hrow hb;clear hj hlt;go_wp2
    go_ret2
    refine⟨⟨_,rfl,?_⟩,by rw[hb0];exact HB5.out.trans (HB.out.below (by omega) (by omega))⟩;have hbl:=QV (big:=false) (v:=v) HL1.out HL2.out;refine⟨by rw[List.length_map,hbl];rfl,.inr ⟨g,32,_,rfl,by omega,HROW.out,Nat.le_refl _,by unfold maxLen;omega,?_,?_⟩⟩
    ·rw[List.size_toArray,List.length_map,←HBL.out,hbl];rfl
    ·rw[←HBL.out];exact List.take_of_length_le (by rw[List.length_map,hbl];decide)
theorem qgn (b:List Int)(g n c p k:Nat)(hk:k≤8)(hp:p+k≤b.length)(hn:n=b.length)(hc:n≤c)(hc2:n≤65535)(x:Nat)(hx:(x:Int)≤18446744073709551615)(w:World)(h:RowB w g b):
  Calls Tryz.prog 83 #[.slice (some ⟨g,0,none⟩) n c,.int .i64 (p:Nat),.int .i64 (k:Nat),.int .u64 (x:Nat)] w fun e w'=>e= .returned (.tuple #[])∧RowB w' g (qU b p (qS x k))∧But g w w':=by
 have hgs:g<w.heap.size:=(Ai h).1;have HR:=hid h;have HN:=hid hn;have hpk:(p:Int)+k≤n:=by omega
 have hnn:(n:Int)≤65535:=by omega
 clear h hn;go_enter Tryz.func83,Tryz.ntmps83
 go_wp2_with fail
 go_loopw [10] (fun i wr=> ∃j:Nat,i= .int .i64 (j:Nat)∧j≤k∧RowB wr g (qU b p (qS x j))∧But g w wr) (fun i _=>k - (intOf i).toNat)
 case atStart=>exact⟨0,rfl,Nat.zero_le _,by show RowB w g (qU b p []);rw[Yi];exact HR.out,But.refl _ _⟩
 case round=>
  obtain⟨j,rfl,hj,hrow,hb⟩:=hrel;by_cases hlt:j<k
  ·have hl:(qU b p (qS x j)).length=b.length:=qX (by rw[qM];omega);have hc0:=hrow.cell (i:=p+j) (by have:=HN.out;omega);have hf0:=frozen_of_row wr g (p+j) _ _ hrow;have hg0:g<wr.heap.size:=Nat.lt_of_lt_of_le hgs hb.size;have q:=YY x j;have hst:=hrow.set (p+j) (byt x j);have e:(qU b p (qS x j)).set (p+j) (byt x j)=qU b p (qS x (j+1)):=by
    have e1:=jz (b:=b) (zs:=qS x j) (p:=p) (z:=byt x j) (by rw[qM];omega);rw[qM]at e1;rw[←e1,YX]
   rw[e]at hst;have HST:=hid hst;have HB:=hid hb;generalize qm (qU b p (qS x j)) (p+j)=z0 at hc0;have hjk:(j:Int)<k∧(k:Int)≤8∧0≤(j:Int)∧(p:Int)+j<n:=by omega
   obtain⟨q1,q2,q3,q4⟩:=hjk;clear hst e hl hrow hb;go_wp2
   exact⟨⟨j+1,rfl,by omega,HST.out,HB.out.set _ _⟩,by simp[intOf];omega⟩
  ·obtain rfl:j=k:=by omega
   have HB:=hid hb;have HW:=hid hrow;clear hb hrow;go_wp2
   go_end0
   exact⟨rfl,HW.out,HB.out⟩
theorem qeH {big:Bool}{v:Nat→Nat}(hP:ParOk big v)(sa pe:Value)(f:Nat)(h1:1≤f)(h2:f≤9)(w:World):
  Calls Tryz.prog 84 #[parN v sa pe,.int .i64 (f:Nat)] w fun e w'=>e= .returned (.int .u64 (v f:Nat))∧Below w.heap.size w w':=by
 have q:IntKind.u64.wrap ((v f:Nat):Int)=((v f:Nat):Int):=u64_wrap_id _ (by omega) (by have:=hP.le f h1 h2;omega);unfold parN yq;clear hP;rcases(show f=1∨f=2∨f=3∨f=4∨f=5∨f=6∨f=7∨f=8∨f=9 by omega)with rfl|rfl|rfl|rfl|rfl|rfl|rfl|rfl|rfl
 all_goals
  clear h1 h2;go_enter Tryz.func84,Tryz.ntmps84
  go_wp2_with fail
  go_ret
  exact⟨rfl,Br.alloc Nl _⟩
end Go.Proofs.YtdndeffmlhaipaaGreatDoor
