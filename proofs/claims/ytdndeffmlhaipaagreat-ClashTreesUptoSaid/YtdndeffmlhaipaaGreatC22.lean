/- The output of a hasher of words. No condition. -/
import Derived.Test.YtdndeffmlhaipaaGreatC21
import Derived.Test.YtdndeffmlhaipaaGreatC18
set_option linter.all false
set_option maxRecDepth 100000
set_option maxHeartbeats 8000000
namespace Go.Proofs.YtdndeffmlhaipaaGreat
open Go.ChangeShapes Go.WideShapes Go.ChangeAt Go.RowKit Go.Joins Go.Shelf Go.Maps
open Go.Lib (hid)
attribute [local go_sem] Oper.semAt_some
theorem qgK (h0 msg:List Int)(node:Bool)(hh:Words 64 8 h0)(hm: ∀z∈msg,0≤z∧z≤255)(p:Nat)(hv:Value)(w:World)(hE:QM true w p hv h0 msg)(hlen:(msg.length:Int)≤281474976710656):
  Calls Tryz.prog 208 #[.pointer (some ⟨p,0,none⟩),.bool node] w fun e w'=> ∃v,e= .returned v∧w'.ownsRow w.heap.size 5 1 v 64 ((zc true h0 msg node).map qp)∧Below w.heap.size w w':=by
 have hps:p<w.heap.size:=(Ai hE.1).1;obtain⟨hrow,hown⟩:=hE;have hsum:=Ju (Yv true) msg;have hhl:=ZT (Yv true) msg;have hhz:=Y3 (n:=bB true) hm;have hst:=yK true hh msg (nbk (bB true) msg.length);have hbk:=J4 (Yv true) msg;have hout:zc true h0 msg node=qH 8 (yq true (stZ true h0 msg (nbk (bB true) msg.length)) (Qv 128 (Q3 (bB true) msg)) ((bB true*nbk (bB true) msg.length+(Q3 (bB true) msg).length:Nat):Int) true node) 8:=by rw[hsum];unfold zc;rw[hbk];rfl
 simp only[cond]at hrow;rw[hout];clear hout hbk hh;generalize stZ true h0 msg (nbk (bB true) msg.length)=H1 at*;generalize bB true*nbk (bB true) msg.length=lo1 at*;generalize Q3 (bB true) msg=hl at*;have hhl':hl.length≤128:=hhl;clear hm hhl;obtain⟨a1,n1,c1,rfl⟩:=qq hown;obtain rfl:n1=hl.length:=yL hown;have hH0:=Qj hown hhz;obtain⟨s1,hs1⟩:=Ex (lo1+hl.length);have hAD:=qdf lo1 hl.length (by omega);have hsl:(s1:Int)<9223372036854775808:=by omega
 have HSL:=hid hsl;rw[hs1]at hAD⊢;have hpz:=Q9 (n:=128) hhz;have hpl:=QC (n:=128) hhl';have hPD:=jf hl (.slice a1 hl.length c1) 128;obtain⟨PZ,hPZ⟩:=Ex (Qv 128 hl);rw[hPZ]at hpz hpl hPD⊢;have hCW:=QI true hst PZ (s1:Nat) true node;have hMX:=qdJ H1 PZ hst;obtain⟨R,hR⟩:=Ex (yq true H1 PZ (s1:Nat) true node);have hMX2:=fun(v:Value) (W:World) (h8:Holds8 W v PZ)=>hMX v s1 hsl true node W h8 hpz hpl
 rw[hR]at hCW⊢;simp only[hR]at hMX2;have HAD:=hid hAD;have HPD:=hid hPD;have HMX2:=hid hMX2;have HST:=hid hst;have HCW:=hid hCW;have HROW:=hid hrow;have HH0:=hid hH0;clear hAD hPD hMX hMX2 hst hCW hrow hH0 hown hsum hs1 hPZ hR hpz hpl hhz hsl hlen;have hl4:(hl.length:Int)≤128:=by omega
 go_enter Tryz.func208,Tryz.ntmps208
 go_upto_region 1 with(fail)
 refine Q6 (fun _ W=>Below w.heap.size w W) 15 [.v 8 (.pointer (some ⟨p,0,none⟩)),.v 9 (.pointer (some ⟨p,0,none⟩)),.v 10 (.pointer (some ⟨p,8,none⟩)),.v 11 (.agg #[.int .u64 (lo1:Nat),.int .u64 0]),.v 12 (.pointer (some ⟨p,0,none⟩)),.v 13 (.pointer (some ⟨p,0,none⟩)),.v 14 (.pointer (some ⟨p,10,none⟩)),.v 15 (.slice a1 hl.length c1),.v 16 (.int .i64 (hl.length:Nat)),.v 17 (.int .u64 (hl.length:Nat)),.v 18 (.tuple #[.agg #[.int .u64 (s1:Nat),.int .u64 0],.bool false]),.v 7 (.tuple #[.agg #[.int .u64 (s1:Nat),.int .u64 0],.bool false]),.v 19 (.agg #[.int .u64 (s1:Nat),.int .u64 0]),.v 20 (.bool false),.p 5 (fun u W=> ∃p',u= .pointer (some ⟨p',0,none⟩)∧w.heap.size≤p'∧ ∃c,W.heap[p']? =some (.cells c 184 (0,0))∧c.size=2),.f none [5] (fun vs W=> ∃p',vs=[.pointer (some ⟨p',0,none⟩)]∧w.heap.size≤p'∧W.heap[p']? =some (.cells #[.int .u64 (s1:Nat),.int .u64 0] 184 (0,0))),.v 6 (.bool false)] (by exact⟨(fun _ _ hb _ h=>by obtain⟨p',e,h3,c,h4,h5⟩:=h;exact⟨p',e,h3,c,qc h4 hb,h5⟩),(fun _ _ hb _ h=>by obtain⟨p',e,h3,h4⟩:=h;exact⟨p',e,h3,qc h4 hb⟩),trivial⟩) Br.drew (fun _ _ _ h hb=>h.trans (hb.mono h.size)) ?_ ?_ ?_
 ·repeat' (with_reducible first|exact qx|refine qu ?_ ?_)
  all_goals try
   refine .inr ?_;intro A x W f hA hR hf hdep D K hK;have a0:=hA.2 0 (by decide);conv at a0=>rhs;whnf
   simp only[QU,Q4]at D;clear hdep hA;first
   | go_simp
     exact hK _ _ BR rfl
   | have y0:IntKind.u64.wrap (hl.length:Int)=(hl.length:Int):=u64_wrap_id _ (by omega) (by omega)
     go_simp
     exact hK _ _ BR rfl
  any_goals exact .inl rfl
  all_goals refine .inr ?_
  ·intro A x W f hA hR hf hdep _ K hK;have g10:=gw hA hdep 2 10;clear hdep hA;have g0:=qc HROW.out hR;refine qV 184 _ rfl p 8 g10 186 _ #[.int .u64 (lo1:Nat),.int .u64 0] (0,0) _ g0 Tryz.underlying184 rfl (by kernel_rfl) (qc6 _ _ _) (hK _ _ Br rfl)
  ·intro A x W f hA hR hf hdep _ K hK;have g14:=gw hA hdep 6 14;clear hdep hA;have g0:=qc HROW.out hR;have c0:W.cell? ⟨p,10,none⟩=some (.slice a1 hl.length c1):=qa g0 10;go_simp
   exact hK _ _ BR rfl
  ·intro A x W f hA hR hf hdep _ K hK;have g11:=gw hA hdep 3 11;have g17:=gw hA hdep 9 17;clear hdep hA;go_simp
   refine(HAD.out _).mono ?_;rintro e w' ⟨rfl,hb⟩;exact hK _ _ hb rfl
  ·intro A x W f hA hR hf hdep _ K hK;clear hdep hA;go_simp
   exact hK _ _ (Br.alloc Nl _) ⟨W.heap.size,rfl,hR.size,_,Wn W _,rfl⟩
 ·intro A x W hA hR hdep K hK;have g5:(fun u W=> ∃p',u= .pointer (some ⟨p',0,none⟩)∧w.heap.size≤p'∧ ∃c,W.heap[p']? =some (.cells c 184 (0,0))∧c.size=2) (x 5) W:=hdep ⟨14,.data⟩ (by simp) rfl;have a5:A.tmps.getD 5 undef=x 5:=hA.1 5 (by decide);have g19:=gw hA hdep 12 19;clear hdep hA;obtain⟨p',e5,hp1,c,hp2,hp3⟩:=g5;refine wp_store_row 184 _ _ rfl p' #[.int .u64 (s1:Nat),.int .u64 0] (a5.trans e5) g19 184 c hp2 (by kernel_rfl) (by rw[hp3];rfl) (by simp[Value.oneCell']) ?_;have hb':Below w.heap.size w (W.setRow p' #[.int .u64 (s1:Nat),.int .u64 0]):=below_setRow hR hp1 _;refine hK _ _ (fun _=>rfl) hb' ⟨.inr (fun _ h=>h),.inr (fun _ h=>h),.inr (fun _ h=>h),.inr (fun _ h=>h),.inr (fun _ h=>h),.inr (fun _ h=>h),.inr (fun _ h=>h),.inr (fun _ h=>h),.inr (fun _ h=>h),.inr (fun _ h=>h),.inr (fun _ h=>h),.inr (fun _ h=>h),.inr (fun _ h=>h),.inr (fun _ h=>h),.inr (fun u h=>?_),.inl rfl,.inr (fun _ h=>h),trivial⟩ ⟨p',by simp[e5],hp1,setRow_heap _ _ _ _ _ _ hp2⟩;obtain⟨q,e,q1,c',q2,q3⟩:=h;refine⟨q,e,q1,?_⟩;by_cases hq:q=p'
  ·subst hq;exact⟨_,setRow_heap _ _ _ _ _ _ hp2,rfl⟩
  ·exact⟨c',(setRow_other _ _ _ _ hq).trans q2,q3⟩
 intro x W hR hall;obtain⟨e5,es15, -⟩:=hall;change (fun u W=> ∃p',u= .pointer (some ⟨p',0,none⟩)∧w.heap.size≤p'∧ ∃c,W.heap[p']? =some (.cells c 184 (0,0))∧c.size=2) (x 5) W at e5
 obtain⟨pc,e5,hpc, -⟩:=e5;obtain⟨pc',e5',hpc',hrc⟩:=es15;simp only[List.map_cons,List.map_nil,e5,List.cons.injEq,Value.pointer.injEq,Option.some.injEq,Addr.mk.injEq,and_true]at e5';obtain rfl:=e5';simp only[QD,Act.put,Ls,e5];clear e5;have hr2:=qc HROW.out hR;have hH2:=HH0.out.below hR;have HR2:=hid hr2;have HH2:=hid hH2;have HRC:=hid hrc;have HB2:=hid hR;have hps2:p<W.heap.size:=(Ai hr2).1;have hpcs:pc<W.heap.size:=(Ai hrc).1;have hs12:w.heap.size≤W.heap.size:=hR.size;clear hr2 hH2 hrc hR x hpc hpc';generalize W=W2 at*;go_upto_region 2 with(fail)
 refine qA (n:=26) (w0:=W2) (B:=W2.heap.size) [.v 21 (.pointer (some ⟨p,0,none⟩)),.v 22 (.pointer (some ⟨p,0,none⟩)),.v 23 (.pointer (some ⟨p,13,none⟩)),.v 24 (.func (.func 114) #[] #[]),.v 25 (.pointer (some ⟨p,0,none⟩)),.v 26 (.pointer (some ⟨p,0,none⟩)),.v 27 (.pointer (some ⟨p,12,none⟩)),.v 28 (.func (.func 113) #[] #[]),.v 29 (.pointer (some ⟨p,0,none⟩)),.v 30 (.pointer (some ⟨p,0,none⟩)),.v 31 (.pointer (some ⟨p,0,none⟩)),.v 32 (.agg (qh .u64 H1)),.v 33 (.pointer (some ⟨p,0,none⟩)),.v 34 (.pointer (some ⟨p,0,none⟩)),.v 35 (.pointer (some ⟨p,10,none⟩)),.v 36 (.slice a1 hl.length c1),.v 37 (.pointer (some ⟨p,0,none⟩)),.v 38 (.pointer (some ⟨p,0,none⟩)),.v 39 (.pointer (some ⟨p,11,none⟩)),.v 40 (.int .i64 128),.p 41 (fun u W=>W.ownsRow W2.heap.size 5 1 u 128 (PZ.map qp)),.v 42 (.agg #[.int .u64 (s1:Nat),.int .u64 0]),.v 43 (.bool node),.v 44 (.agg (qh .u64 R)),.p 45 (fun u W=>W.ownsRow W2.heap.size 5 1 u 64 ((qH 8 R 8).map qp)),.p 4 (fun u W=>W.ownsRow W2.heap.size 5 1 u 64 ((qH 8 R 8).map qp))] (by exact⟨(fun _ _ _ h hb=>qf h (fun g _ hg=>hb.block g hg)),(fun _ _ _ h hb=>qf h (fun g _ hg=>hb.block g hg)),(fun _ _ _ h hb=>qf h (fun g _ hg=>hb.block g hg)),trivial⟩) Br.drew Nl ?_ ?_
 ·repeat' (with_reducible first|exact qx|refine qu ?_ ?_)
  all_goals try
   intro A x W hA hW hBW hdep D K hK;have a0:=hA.2 0 (by decide);conv at a0=>rhs;whnf
   have a1:=hA.2 1 (by decide);conv at a1=>rhs;whnf
   simp only[QU,Q4]at D;clear hdep hA;go_simp
   exact hK _ _ BR rfl
  ·intro A x W hA hW hBW hdep _ K hK;have g23:=gv hA hdep 2 23;clear hdep hA;have g0:=qc HR2.out hW;have c0:W.cell? ⟨p,13,none⟩=some (.func (.func 114) #[] #[]):=qa g0 13;go_simp
   exact hK _ _ BR rfl
  ·intro A x W hA hW hBW hdep _ K hK;have g27:=gv hA hdep 6 27;clear hdep hA;have g0:=qc HR2.out hW;have c0:W.cell? ⟨p,12,none⟩=some (.func (.func 113) #[] #[]):=qa g0 12;go_simp
   exact hK _ _ BR rfl
  ·intro A x W hA hW hBW hdep _ K hK;have g31:=gv hA hdep 10 31;clear hdep hA;have g0:=qc HR2.out hW;refine qV 177 _ rfl p 0 g31 186 _ (qh .u64 H1) (0,0) _ g0 Tryz.underlying177 rfl (by rw[qe,HST.out.1];kernel_rfl) (qgZ HST.out _ _) (hK _ _ Br rfl)
  ·intro A x W hA hW hBW hdep _ K hK;have g35:=gv hA hdep 14 35;clear hdep hA;have g0:=qc HR2.out hW;have c0:W.cell? ⟨p,10,none⟩=some (.slice a1 hl.length c1):=qa g0 10;go_simp
   exact hK _ _ BR rfl
  ·intro A x W hA hW hBW hdep _ K hK;have g39:=gv hA hdep 18 39;clear hdep hA;have g0:=qc HR2.out hW;have c0:W.cell? ⟨p,11,none⟩=some (.int .i64 128):=qa g0 11;go_simp
   exact hK _ _ BR rfl
  ·intro A x W hA hW hBW hdep _ K hK;have g36:=gv hA hdep 15 36;have g40:=gv hA hdep 19 40;clear hdep hA;go_simp
   refine(HPD.out _ (HH2.out.below hW) hhl' (by decide)).mono ?_;rintro e w' ⟨u,rfl,ho,hb⟩;exact hK _ _ hb (ownsRow_le ho hBW)
  ·intro A x W hA hW hBW hdep _ K hK;have a5:=hA.2 5 (by decide);conv at a5=>rhs;whnf
   clear hdep hA;have g0:=qc HRC.out hW;refine wp_load_row 184 _ rfl pc a5 _ _ _ _ g0 Tryz.underlying184 rfl (by kernel_rfl) (hK _ _ Br rfl)
  ·intro A x W hA hW hBW hdep _ K hK;have g28:=gv hA hdep 7 28;have g32:=gv hA hdep 11 32;have g41:(fun u W=>W.ownsRow W2.heap.size 5 1 u 128 (PZ.map qp)) (x 41) W:=hdep ⟨20,.data⟩ (by simp) rfl _ rfl;have a41:A.tmps.getD 41 undef=x 41:=hA.1 41 (by decide);have g42:=gv hA hdep 21 42;have g43:=gv hA hdep 22 43;clear hdep hA;go_simp
   refine(HMX2.out _ _ (QX g41)).mono ?_;rintro e w' ⟨rfl,hb⟩;exact hK _ _ hb rfl
  ·intro A x W hA hW hBW hdep _ K hK;have g24:=gv hA hdep 3 24;have g44:=gv hA hdep 23 44;clear hdep hA;go_simp
   refine(qe9 R HCW.out _).mono ?_;rintro e w' ⟨u,rfl,ho,hb⟩;exact hK _ _ hb (ownsRow_le ho hBW)
  ·intro A x W hA hW hBW hdep _ K hK;have g45:(fun u W=>W.ownsRow W2.heap.size 5 1 u 64 ((qH 8 R 8).map qp)) (x 45) W:=hdep ⟨24,.data⟩ (by simp) rfl _ rfl;have a45:A.tmps.getD 45 undef=x 45:=hA.1 45 (by decide);clear hdep hA;go_simp
   exact hK _ _ Br (a45▸g45)
 intro x W hW hBW hall;obtain⟨e41,e45,e4, -⟩:=hall;change (fun u W=>W.ownsRow W2.heap.size 5 1 u 128 (PZ.map qp)) (x 41) W at e41
 change (fun u W=>W.ownsRow W2.heap.size 5 1 u 64 ((qH 8 R 8).map qp)) (x 45) W at e45
 change (fun u W=>W.ownsRow W2.heap.size 5 1 u 64 ((qH 8 R 8).map qp)) (x 4) W at e4
 refine qs ?_;simp only[QD,Act.put,Ls];have hB3:=HB2.out.trans (hW.mono hs12);have E4:=hid (ownsRow_le e4 hs12);clear e41 e45 e4 hW hBW;go_wp2
 go_ret
 exact⟨_,rfl,E4.out,hB3⟩
theorem qfU (h0 msg:List Int)(node:Bool)(hh:Words 32 8 h0)(hm: ∀z∈msg,0≤z∧z≤255)(p:Nat)(hv:Value)(w:World)(hE:QM false w p hv h0 msg)(hlen:(msg.length:Int)≤281474976710656):
  Calls Tryz.prog 214 #[.pointer (some ⟨p,0,none⟩),.bool node] w fun e w'=> ∃v,e= .returned v∧w'.ownsRow w.heap.size 5 1 v 32 ((zc false h0 msg node).map qp)∧Below w.heap.size w w':=by
 have hps:p<w.heap.size:=(Ai hE.1).1;obtain⟨hrow,hown⟩:=hE;have hsum:=Ju (Yv false) msg;have hhl:=ZT (Yv false) msg;have hhz:=Y3 (n:=bB false) hm;have hst:=yK false hh msg (nbk (bB false) msg.length);have hbk:=J4 (Yv false) msg;have hout:zc false h0 msg node=qH 4 (yq false (stZ false h0 msg (nbk (bB false) msg.length)) (Qv 64 (Q3 (bB false) msg)) ((bB false*nbk (bB false) msg.length+(Q3 (bB false) msg).length:Nat):Int) true node) 8:=by rw[hsum];unfold zc;rw[hbk];rfl
 simp only[cond]at hrow;rw[hout];clear hout hbk hh;generalize stZ false h0 msg (nbk (bB false) msg.length)=H1 at*;generalize bB false*nbk (bB false) msg.length=lo1 at*;generalize Q3 (bB false) msg=hl at*;have hhl':hl.length≤64:=hhl;clear hm hhl;obtain⟨a1,n1,c1,rfl⟩:=qq hown;obtain rfl:n1=hl.length:=yL hown;have hH0:=Qj hown hhz;obtain⟨s1,hs1⟩:=Ex (lo1+hl.length);have hAD:=qdf lo1 hl.length (by omega);have hsl:(s1:Int)<9223372036854775808:=by omega
 have HSL:=hid hsl;rw[hs1]at hAD⊢;have hpz:=Q9 (n:=64) hhz;have hpl:=QC (n:=64) hhl';have hPD:=jf hl (.slice a1 hl.length c1) 64;obtain⟨PZ,hPZ⟩:=Ex (Qv 64 hl);rw[hPZ]at hpz hpl hPD⊢;have hCW:=QI false hst PZ (s1:Nat) true node;have hMX:=qce H1 PZ hst;obtain⟨R,hR⟩:=Ex (yq false H1 PZ (s1:Nat) true node);have hMX2:=fun(v:Value) (W:World) (h8:Holds8 W v PZ)=>hMX v s1 hsl true node W h8 hpz hpl
 rw[hR]at hCW⊢;simp only[hR]at hMX2;have HAD:=hid hAD;have HPD:=hid hPD;have HMX2:=hid hMX2;have HST:=hid hst;have HCW:=hid hCW;have HROW:=hid hrow;have HH0:=hid hH0;clear hAD hPD hMX hMX2 hst hCW hrow hH0 hown hsum hs1 hPZ hR hpz hpl hhz hsl hlen;have hl4:(hl.length:Int)≤64:=by omega
 go_enter Tryz.func214,Tryz.ntmps214
 go_upto_region 1 with(fail)
 refine Q6 (fun _ W=>Below w.heap.size w W) 15 [.v 8 (.pointer (some ⟨p,0,none⟩)),.v 9 (.pointer (some ⟨p,0,none⟩)),.v 10 (.pointer (some ⟨p,8,none⟩)),.v 11 (.agg #[.int .u64 (lo1:Nat),.int .u64 0]),.v 12 (.pointer (some ⟨p,0,none⟩)),.v 13 (.pointer (some ⟨p,0,none⟩)),.v 14 (.pointer (some ⟨p,10,none⟩)),.v 15 (.slice a1 hl.length c1),.v 16 (.int .i64 (hl.length:Nat)),.v 17 (.int .u64 (hl.length:Nat)),.v 18 (.tuple #[.agg #[.int .u64 (s1:Nat),.int .u64 0],.bool false]),.v 7 (.tuple #[.agg #[.int .u64 (s1:Nat),.int .u64 0],.bool false]),.v 19 (.agg #[.int .u64 (s1:Nat),.int .u64 0]),.v 20 (.bool false),.p 5 (fun u W=> ∃p',u= .pointer (some ⟨p',0,none⟩)∧w.heap.size≤p'∧ ∃c,W.heap[p']? =some (.cells c 184 (0,0))∧c.size=2),.f none [5] (fun vs W=> ∃p',vs=[.pointer (some ⟨p',0,none⟩)]∧w.heap.size≤p'∧W.heap[p']? =some (.cells #[.int .u64 (s1:Nat),.int .u64 0] 184 (0,0))),.v 6 (.bool false)] (by exact⟨(fun _ _ hb _ h=>by obtain⟨p',e,h3,c,h4,h5⟩:=h;exact⟨p',e,h3,c,qc h4 hb,h5⟩),(fun _ _ hb _ h=>by obtain⟨p',e,h3,h4⟩:=h;exact⟨p',e,h3,qc h4 hb⟩),trivial⟩) Br.drew (fun _ _ _ h hb=>h.trans (hb.mono h.size)) ?_ ?_ ?_
 ·repeat' (with_reducible first|exact qx|refine qu ?_ ?_)
  all_goals try
   refine .inr ?_;intro A x W f hA hR hf hdep D K hK;have a0:=hA.2 0 (by decide);conv at a0=>rhs;whnf
   simp only[QU,Q4]at D;clear hdep hA;first
   | go_simp
     exact hK _ _ BR rfl
   | have y0:IntKind.u64.wrap (hl.length:Int)=(hl.length:Int):=u64_wrap_id _ (by omega) (by omega)
     go_simp
     exact hK _ _ BR rfl
  any_goals exact .inl rfl
  all_goals refine .inr ?_
  ·intro A x W f hA hR hf hdep _ K hK;have g10:=gw hA hdep 2 10;clear hdep hA;have g0:=qc HROW.out hR;refine qV 184 _ rfl p 8 g10 194 _ #[.int .u64 (lo1:Nat),.int .u64 0] (0,0) _ g0 Tryz.underlying184 rfl (by kernel_rfl) (qc5 _ _ _) (hK _ _ Br rfl)
  ·intro A x W f hA hR hf hdep _ K hK;have g14:=gw hA hdep 6 14;clear hdep hA;have g0:=qc HROW.out hR;have c0:W.cell? ⟨p,10,none⟩=some (.slice a1 hl.length c1):=qa g0 10;go_simp
   exact hK _ _ BR rfl
  ·intro A x W f hA hR hf hdep _ K hK;have g11:=gw hA hdep 3 11;have g17:=gw hA hdep 9 17;clear hdep hA;go_simp
   refine(HAD.out _).mono ?_;rintro e w' ⟨rfl,hb⟩;exact hK _ _ hb rfl
  ·intro A x W f hA hR hf hdep _ K hK;clear hdep hA;go_simp
   exact hK _ _ (Br.alloc Nl _) ⟨W.heap.size,rfl,hR.size,_,Wn W _,rfl⟩
 ·intro A x W hA hR hdep K hK;have g5:(fun u W=> ∃p',u= .pointer (some ⟨p',0,none⟩)∧w.heap.size≤p'∧ ∃c,W.heap[p']? =some (.cells c 184 (0,0))∧c.size=2) (x 5) W:=hdep ⟨14,.data⟩ (by simp) rfl;have a5:A.tmps.getD 5 undef=x 5:=hA.1 5 (by decide);have g19:=gw hA hdep 12 19;clear hdep hA;obtain⟨p',e5,hp1,c,hp2,hp3⟩:=g5;refine wp_store_row 184 _ _ rfl p' #[.int .u64 (s1:Nat),.int .u64 0] (a5.trans e5) g19 184 c hp2 (by kernel_rfl) (by rw[hp3];rfl) (by simp[Value.oneCell']) ?_;have hb':Below w.heap.size w (W.setRow p' #[.int .u64 (s1:Nat),.int .u64 0]):=below_setRow hR hp1 _;refine hK _ _ (fun _=>rfl) hb' ⟨.inr (fun _ h=>h),.inr (fun _ h=>h),.inr (fun _ h=>h),.inr (fun _ h=>h),.inr (fun _ h=>h),.inr (fun _ h=>h),.inr (fun _ h=>h),.inr (fun _ h=>h),.inr (fun _ h=>h),.inr (fun _ h=>h),.inr (fun _ h=>h),.inr (fun _ h=>h),.inr (fun _ h=>h),.inr (fun _ h=>h),.inr (fun u h=>?_),.inl rfl,.inr (fun _ h=>h),trivial⟩ ⟨p',by simp[e5],hp1,setRow_heap _ _ _ _ _ _ hp2⟩;obtain⟨q,e,q1,c',q2,q3⟩:=h;refine⟨q,e,q1,?_⟩;by_cases hq:q=p'
  ·subst hq;exact⟨_,setRow_heap _ _ _ _ _ _ hp2,rfl⟩
  ·exact⟨c',(setRow_other _ _ _ _ hq).trans q2,q3⟩
 intro x W hR hall;obtain⟨e5,es15, -⟩:=hall;change (fun u W=> ∃p',u= .pointer (some ⟨p',0,none⟩)∧w.heap.size≤p'∧ ∃c,W.heap[p']? =some (.cells c 184 (0,0))∧c.size=2) (x 5) W at e5
 obtain⟨pc,e5,hpc, -⟩:=e5;obtain⟨pc',e5',hpc',hrc⟩:=es15;simp only[List.map_cons,List.map_nil,e5,List.cons.injEq,Value.pointer.injEq,Option.some.injEq,Addr.mk.injEq,and_true]at e5';obtain rfl:=e5';simp only[QD,Act.put,Ls,e5];clear e5;have hr2:=qc HROW.out hR;have hH2:=HH0.out.below hR;have HR2:=hid hr2;have HH2:=hid hH2;have HRC:=hid hrc;have HB2:=hid hR;have hps2:p<W.heap.size:=(Ai hr2).1;have hpcs:pc<W.heap.size:=(Ai hrc).1;have hs12:w.heap.size≤W.heap.size:=hR.size;clear hr2 hH2 hrc hR x hpc hpc';generalize W=W2 at*;go_upto_region 2 with(fail)
 refine qA (n:=26) (w0:=W2) (B:=W2.heap.size) [.v 21 (.pointer (some ⟨p,0,none⟩)),.v 22 (.pointer (some ⟨p,0,none⟩)),.v 23 (.pointer (some ⟨p,13,none⟩)),.v 24 (.func (.func 117) #[] #[]),.v 25 (.pointer (some ⟨p,0,none⟩)),.v 26 (.pointer (some ⟨p,0,none⟩)),.v 27 (.pointer (some ⟨p,12,none⟩)),.v 28 (.func (.func 116) #[] #[]),.v 29 (.pointer (some ⟨p,0,none⟩)),.v 30 (.pointer (some ⟨p,0,none⟩)),.v 31 (.pointer (some ⟨p,0,none⟩)),.v 32 (.agg (qh .u32 H1)),.v 33 (.pointer (some ⟨p,0,none⟩)),.v 34 (.pointer (some ⟨p,0,none⟩)),.v 35 (.pointer (some ⟨p,10,none⟩)),.v 36 (.slice a1 hl.length c1),.v 37 (.pointer (some ⟨p,0,none⟩)),.v 38 (.pointer (some ⟨p,0,none⟩)),.v 39 (.pointer (some ⟨p,11,none⟩)),.v 40 (.int .i64 64),.p 41 (fun u W=>W.ownsRow W2.heap.size 5 1 u 64 (PZ.map qp)),.v 42 (.agg #[.int .u64 (s1:Nat),.int .u64 0]),.v 43 (.bool node),.v 44 (.agg (qh .u32 R)),.p 45 (fun u W=>W.ownsRow W2.heap.size 5 1 u 32 ((qH 4 R 8).map qp)),.p 4 (fun u W=>W.ownsRow W2.heap.size 5 1 u 32 ((qH 4 R 8).map qp))] (by exact⟨(fun _ _ _ h hb=>qf h (fun g _ hg=>hb.block g hg)),(fun _ _ _ h hb=>qf h (fun g _ hg=>hb.block g hg)),(fun _ _ _ h hb=>qf h (fun g _ hg=>hb.block g hg)),trivial⟩) Br.drew Nl ?_ ?_
 ·repeat' (with_reducible first|exact qx|refine qu ?_ ?_)
  all_goals try
   intro A x W hA hW hBW hdep D K hK;have a0:=hA.2 0 (by decide);conv at a0=>rhs;whnf
   have a1:=hA.2 1 (by decide);conv at a1=>rhs;whnf
   simp only[QU,Q4]at D;clear hdep hA;go_simp
   exact hK _ _ BR rfl
  ·intro A x W hA hW hBW hdep _ K hK;have g23:=gv hA hdep 2 23;clear hdep hA;have g0:=qc HR2.out hW;have c0:W.cell? ⟨p,13,none⟩=some (.func (.func 117) #[] #[]):=qa g0 13;go_simp
   exact hK _ _ BR rfl
  ·intro A x W hA hW hBW hdep _ K hK;have g27:=gv hA hdep 6 27;clear hdep hA;have g0:=qc HR2.out hW;have c0:W.cell? ⟨p,12,none⟩=some (.func (.func 116) #[] #[]):=qa g0 12;go_simp
   exact hK _ _ BR rfl
  ·intro A x W hA hW hBW hdep _ K hK;have g31:=gv hA hdep 10 31;clear hdep hA;have g0:=qc HR2.out hW;refine qV 187 _ rfl p 0 g31 194 _ (qh .u32 H1) (0,0) _ g0 Tryz.underlying187 rfl (by rw[qe,HST.out.1];kernel_rfl) (qgY HST.out _ _) (hK _ _ Br rfl)
  ·intro A x W hA hW hBW hdep _ K hK;have g35:=gv hA hdep 14 35;clear hdep hA;have g0:=qc HR2.out hW;have c0:W.cell? ⟨p,10,none⟩=some (.slice a1 hl.length c1):=qa g0 10;go_simp
   exact hK _ _ BR rfl
  ·intro A x W hA hW hBW hdep _ K hK;have g39:=gv hA hdep 18 39;clear hdep hA;have g0:=qc HR2.out hW;have c0:W.cell? ⟨p,11,none⟩=some (.int .i64 64):=qa g0 11;go_simp
   exact hK _ _ BR rfl
  ·intro A x W hA hW hBW hdep _ K hK;have g36:=gv hA hdep 15 36;have g40:=gv hA hdep 19 40;clear hdep hA;go_simp
   refine(HPD.out _ (HH2.out.below hW) hhl' (by decide)).mono ?_;rintro e w' ⟨u,rfl,ho,hb⟩;exact hK _ _ hb (ownsRow_le ho hBW)
  ·intro A x W hA hW hBW hdep _ K hK;have a5:=hA.2 5 (by decide);conv at a5=>rhs;whnf
   clear hdep hA;have g0:=qc HRC.out hW;refine wp_load_row 184 _ rfl pc a5 _ _ _ _ g0 Tryz.underlying184 rfl (by kernel_rfl) (hK _ _ Br rfl)
  ·intro A x W hA hW hBW hdep _ K hK;have g28:=gv hA hdep 7 28;have g32:=gv hA hdep 11 32;have g41:(fun u W=>W.ownsRow W2.heap.size 5 1 u 64 (PZ.map qp)) (x 41) W:=hdep ⟨20,.data⟩ (by simp) rfl _ rfl;have a41:A.tmps.getD 41 undef=x 41:=hA.1 41 (by decide);have g42:=gv hA hdep 21 42;have g43:=gv hA hdep 22 43;clear hdep hA;go_simp
   refine(HMX2.out _ _ (QX g41)).mono ?_;rintro e w' ⟨rfl,hb⟩;exact hK _ _ hb rfl
  ·intro A x W hA hW hBW hdep _ K hK;have g24:=gv hA hdep 3 24;have g44:=gv hA hdep 23 44;clear hdep hA;go_simp
   refine(qfa R HCW.out _).mono ?_;rintro e w' ⟨u,rfl,ho,hb⟩;exact hK _ _ hb (ownsRow_le ho hBW)
  ·intro A x W hA hW hBW hdep _ K hK;have g45:(fun u W=>W.ownsRow W2.heap.size 5 1 u 32 ((qH 4 R 8).map qp)) (x 45) W:=hdep ⟨24,.data⟩ (by simp) rfl _ rfl;have a45:A.tmps.getD 45 undef=x 45:=hA.1 45 (by decide);clear hdep hA;go_simp
   exact hK _ _ Br (a45▸g45)
 intro x W hW hBW hall;obtain⟨e41,e45,e4, -⟩:=hall;change (fun u W=>W.ownsRow W2.heap.size 5 1 u 64 (PZ.map qp)) (x 41) W at e41
 change (fun u W=>W.ownsRow W2.heap.size 5 1 u 32 ((qH 4 R 8).map qp)) (x 45) W at e45
 change (fun u W=>W.ownsRow W2.heap.size 5 1 u 32 ((qH 4 R 8).map qp)) (x 4) W at e4
 refine qs ?_;simp only[QD,Act.put,Ls];have hB3:=HB2.out.trans (hW.mono hs12);have E4:=hid (ownsRow_le e4 hs12);clear e41 e45 e4 hW hBW;go_wp2
 go_ret
 exact⟨_,rfl,E4.out,hB3⟩
def yb (kind dg:Int)(bv kv:Value)(last:Bool)(wr:Int)(e:Value):Array Value:= #[.int .i64 kind,.int .i64 dg,bv,kv,.bool last,.int .u64 wr,e]
def phT (big:Bool):TypeId:=cond big 180 190
theorem Hold.of_len {w:World}{a:Option Addr}{n c:Nat}{zs:List Int}(h:Hold w (.slice a n c) zs):n=zs.length:=by
 obtain⟨a',c',e, -⟩:=h.slice;simp only[Value.slice.injEq]at e;exact e.2.1
theorem Yp {w:World}{v:Value}{zs:List Int}{b:Nat}(h:Hold w v zs)(hne:zs≠[])(hb:v.ownBlock=some b):b<w.heap.size:=by
 rcases h.2 with⟨h2, -⟩|⟨ad,cap,rfl, -, -,h3⟩
 ·exact absurd h2 hne
 ·obtain⟨b',off,rfl,h3, -⟩:=h3.resolve_left hne;simp only[Value.ownBlock,Option.some.injEq]at hb;subst hb;exact h3
theorem qgM {W:World}{np:Nat}{kind dg:Int}{bv kv:Value}{la:Bool}{wr:Int}{e v:Value}{T:TypeId}(h:W.heap[np]? =some (.cells (yb kind dg bv kv la wr e) T (0,0))):(W.setCell ⟨np,6,none⟩ v).heap[np]? =some (.cells (yb kind dg bv kv la wr v) T (0,0)):=heap_setCell_same W np 6 _ _ v h
theorem ji {W:World}{np:Nat}{kind dg:Int}{bv kv:Value}{la b:Bool}{wr:Int}{e:Value}{T:TypeId}(h:W.heap[np]? =some (.cells (yb kind dg bv kv la wr e) T (0,0))):(W.setCell ⟨np,4,none⟩ (.bool b)).heap[np]? =some (.cells (yb kind dg bv kv b wr e) T (0,0)):=heap_setCell_same W np 4 _ _ _ h
theorem qfm {W:World}{np:Nat}{kind dg:Int}{bv kv:Value}{la:Bool}{wr x:Int}{e:Value}{T:TypeId}(h:W.heap[np]? =some (.cells (yb kind dg bv kv la wr e) T (0,0))):(W.setCell ⟨np,5,none⟩ (.int .u64 x)).heap[np]? =some (.cells (yb kind dg bv kv la x e) T (0,0)):=heap_setCell_same W np 5 _ _ _ h
theorem qaH {big:Bool}{W:World}{p:Nat}{h0:List Int}(h:W.heap[p]? =some (.cells (cond big zh zg h0 0 (.slice none 0 0)) (cond big 186 194) (0,0))):QM big W p (.slice none 0 0) h0 []:=by
 have e:Q3 (bB big) []=[]:=by simp[Q3]
 refine⟨?_,by rw[e];exact Wo _ _ _ _⟩;simpa [qdI,stZ] using h
theorem yC {big:Bool}{W W':World}{p:Nat}{hv:Value}{h0 msg:List Int}(h:QM big W p hv h0 msg)(hb:Below W.heap.size W W'):QM big W' p hv h0 msg:=
 ⟨qc h.1 hb,qf h.2 (fun g _ hg=>hb.block g hg)⟩
theorem ZQ {W:World}{B n b:Nat}{e:TypeId}{v:Value}{xs:List Value}(h:W.ownsRow B e 1 v n xs)(hb:v.ownBlock=some b):B≤b:=by
 rcases h.2 with⟨rfl, -⟩|⟨g,cap,cur,rfl,h1, -⟩
 ·cases hb
 ·simp only[Value.ownBlock,Option.some.injEq]at hb;omega
theorem Yd {P:Program}{o:Oper}{a:Act}{K:Act→World→Prop}{Q:Exit→Act→World→Prop}{n:Nat}{T:TypeId}{x:Value}{name:String}{W:World}{f:FuncId}{g:FuncId×Value→World→Result Next}(hm:(method n T x name).run P W= .ok (f,x) W)(h:Oper.upon P o a K Q (g (f,x) W)):Oper.upon P o a K Q (((method n T x name).run P W).andThen g):=by
 rw[hm];exact h
theorem qfd (bs kz:List Int)(np:Nat)(dg wr:Int)(la:Bool)(bv kv e0:Value)(w:World)(hrow:w.heap[np]? =some (.cells (yb 1 dg bv kv la wr e0) 108 (0,0)))(hB:Hold w bv bs)(hK:Hold w kv kz)(hl:bs.length=64)(hkl:kz.length≤64)(hkn:kv.ownBlock≠some np):
  Calls Tryz.prog 75 #[.pointer (some ⟨np,0,none⟩)] w fun e w'=>e= .returned (.tuple #[])∧(∃p hv,w.heap.size≤p∧w'.heap[np]? =some (.cells (yb 1 dg bv kv false 0 (.iface 180 (.pointer (some ⟨p,0,none⟩)))) 108 (0,0))∧QM true w' p hv (h0Z true bs) (yk 128 kz)∧(∀g,hv.ownBlock=some g→w.heap.size≤g))∧Spare (fun k=>k≠np) w w':=by
 have hnp:np<w.heap.size:=(Ai hrow).1;obtain⟨kn,kc,ka,rfl⟩: ∃n c a,kv= .slice a n c:=by obtain⟨a,c,e, -⟩:=hK.slice;exact⟨_,_,_,e⟩
 obtain rfl:kn=kz.length:=hK.of_len;have HROW:=hid hrow;have HB:=hid hB;have HK:=hid hK;have HL:=hid hl;have HKN:=hid hkn;clear hrow hB hK hl hkn;go_enter Tryz.func75,Tryz.ntmps75
 go_upto_region 0 with(fail)
 refine qA (n:=10) (w0:=w) (B:=w.heap.size) [.v 2 (.pointer (some ⟨np,0,none⟩)),.v 3 (.pointer (some ⟨np,0,none⟩)),.v 4 (.pointer (some ⟨np,0,none⟩)),.v 5 (.pointer (some ⟨np,0,none⟩)),.v 6 (.int .i64 1),.v 7 (.pointer (some ⟨np,0,none⟩)),.v 8 (.pointer (some ⟨np,0,none⟩)),.v 9 (.pointer (some ⟨np,2,none⟩)),.v 10 bv,.p 11 (fun u W=> ∃p,u= .iface 180 (.pointer (some ⟨p,0,none⟩))∧w.heap.size≤p∧W.heap[p]? =some (.cells (zh (h0Z true bs) 0 (.slice none 0 0)) 186 (0,0)))] (by exact⟨(fun _ _ _ h hb=>by obtain⟨p,e,h3,h4⟩:=h;exact⟨p,e,h3,qc h4 hb⟩),trivial⟩) Br.drew Nl ?_ ?_
 ·repeat' (with_reducible first|exact qx|refine qu ?_ ?_)
  all_goals try
   intro A x W hA hW hBW hdep D K hK;have a0:=hA.2 0 (by decide);conv at a0=>rhs;whnf
   simp only[QU,Q4]at D;clear hdep hA;go_simp
   exact hK _ _ BR rfl
  ·intro A x W hA hW hBW hdep _ K hK;have g5:=gv hA hdep 3 5;clear hdep hA;have g0:=qc HROW.out hW;have c0:W.cell? ⟨np,0,none⟩=some (.int .i64 1):=qa g0 0;go_simp
   exact hK _ _ BR rfl
  ·intro A x W hA hW hBW hdep _ K hK;have g9:=gv hA hdep 7 9;clear hdep hA;have g0:=qc HROW.out hW;have c0:W.cell? ⟨np,2,none⟩=some bv:=qa g0 2;go_simp
   exact hK _ _ BR rfl
  ·intro A x W hA hW hBW hdep _ K hK;have g6:=gv hA hdep 4 6;have g10:=gv hA hdep 8 10;clear hdep hA;go_simp
   refine(qfc bs bv _ (HB.out.holds8.mono_below hW Nl) HB.out.1 HL.out).mono ?_;rintro e w' ⟨p,rfl,h1,h2,hb⟩;exact hK _ _ hb ⟨p,rfl,Nat.le_trans hBW h1,h2⟩
 intro x W hW hBW hall;obtain⟨e11, -⟩:=hall;change (fun u W=> ∃p,u= .iface 180 (.pointer (some ⟨p,0,none⟩))∧w.heap.size≤p∧W.heap[p]? =some (.cells (zh (h0Z true bs) 0 (.slice none 0 0)) 186 (0,0))) (x 11) W at e11
 obtain⟨p,e11,hp1,hp2⟩:=e11;refine qn ?_;simp only[QD,Act.put,Ls,e11];clear e11;have hr1:=qc HROW.out hW;have HP2:=hid hp2;have HR1:=hid hr1;have HW:=hid hW;have hnp1:np<W.heap.size:=(Ai hr1).1;have c6:W.cell? ⟨np,6,none⟩=some e0:=qa hr1 6;have f6:=frozen_of_row W np 6 _ _ hr1;clear hp2 hr1 hW hBW x;go_wp2_with fail
 refine qn ?_;go_wp2_with fail
 refine qn ?_;go_wp2_with fail
 refine qs ?_;have hrA:=qgM (v:= .iface 180 (.pointer (some ⟨p,0,none⟩))) HR1.out;have hbA:Spare (fun k=>k≠np) w (W.setCell ⟨np,6,none⟩ (.iface 180 (.pointer (some ⟨p,0,none⟩)))):=(Spare.of_below _ HW.out).trans (Spare.of_but ((But.refl np W).set 6 _)) (fun _ _ h=>h);have hpA:(W.setCell ⟨np,6,none⟩ (.iface 180 (.pointer (some ⟨p,0,none⟩)))).heap[p]? =some (.cells (zh (h0Z true bs) 0 (.slice none 0 0)) 186 (0,0)):=(heap_setCell_other W _ _ _ (by show p≠np;omega)).trans HP2.out;generalize W.setCell ⟨np,6,none⟩ (.iface 180 (.pointer (some ⟨p,0,none⟩)))=WA at*;clear HW HR1 HP2 c6 f6 hnp1 W;have c4:WA.cell? ⟨np,4,none⟩=some (.bool la):=qa hrA 4;have f4:=frozen_of_row WA np 4 _ _ hrA;have hnpA:np<WA.heap.size:=(Ai hrA).1;have HRA:=hid hrA;have HBA:=hid hbA;have HPA:=hid hpA;clear hrA hbA hpA;go_upto_region 2 with(fail)
 have hrA:=ji (b:=false) HRA.out;have hbA:Spare (fun k=>k≠np) w (WA.setCell ⟨np,4,none⟩ (.bool false)):=HBA.out.trans (Spare.of_but ((But.refl np WA).set 4 _)) (fun _ _ h=>h);have hpA:(WA.setCell ⟨np,4,none⟩ (.bool false)).heap[p]? =some (.cells (zh (h0Z true bs) 0 (.slice none 0 0)) 186 (0,0)):=(heap_setCell_other WA _ _ _ (by show p≠np;omega)).trans HPA.out;generalize WA.setCell ⟨np,4,none⟩ (.bool false)=A1 at*;clear HBA HRA HPA c4 f4 hnpA WA;obtain⟨WA,rfl⟩:=Ex A1;have HRA:=hid hrA;have HBA:=hid hbA;have HPA:=hid hpA;have hnpA:np<A1.heap.size:=(Ai hrA).1;have c5:A1.cell? ⟨np,5,none⟩=some (.int .u64 wr):=qa hrA 5;have f5:=frozen_of_row A1 np 5 _ _ hrA;clear hrA hbA hpA;go_upto_region 3 with(fail)
 have hrA:=qfm (x:=0) HRA.out;have hbA:Spare (fun k=>k≠np) w (A1.setCell ⟨np,5,none⟩ (.int .u64 0)):=HBA.out.trans (Spare.of_but ((But.refl np A1).set 5 _)) (fun _ _ h=>h);have hpA:(A1.setCell ⟨np,5,none⟩ (.int .u64 0)).heap[p]? =some (.cells (zh (h0Z true bs) 0 (.slice none 0 0)) 186 (0,0)):=(heap_setCell_other A1 _ _ _ (by show p≠np;omega)).trans HPA.out;have hs0:w.heap.size≤(A1.setCell ⟨np,5,none⟩ (.int .u64 0)).heap.size:=hbA.size;generalize A1.setCell ⟨np,5,none⟩ (.int .u64 0)=WA at*;clear HBA HRA HPA c5 f5 hnpA A1;have c3:WA.cell? ⟨np,3,none⟩=some (.slice ka kz.length kc):=qa hrA 3;have hnpA:np<WA.heap.size:=(Ai hrA).1;have hpA2:p<WA.heap.size:=(Ai hpA).1;have HRA:=hid hrA;have HBA:=hid hbA;have HPA:=hid hpA;clear hrA hbA hpA;by_cases hk0:kz.length=0
 case pos=>
  obtain rfl:kz=[]:=List.eq_nil_of_length_eq_zero hk0;go_wp2
  go_end0
  exact⟨rfl,⟨p,.slice none 0 0,hp1,HRA.out,qaH HPA.out,fun g h=>by cases h⟩,HBA.out⟩
 have hk1:0<kz.length:=by omega
 have hk2:(kz.length:Int)≤64:=by omega
 go_upto_region 4 with(fail)
 have hKA:Hold WA (.slice ka kz.length kc) kz:=HK.out.keep HBA.out.size fun b hb hlt=>HBA.out.block b hlt (fun e=>HKN.out (by rw[hb,e]))
 have HKA:=hid hKA;have hpz:=QC (n:=128) (zs:=kz) (by omega);have HPZ:=hid hpz;have HK0:=hid hk0;clear hKA hpz hk0 c3;have hkp:(Value.slice ka kz.length kc).ownBlock≠some p:=fun e=>by have:=Yp HK.out (fun e=>by rw[e]at hk1;simp at hk1) e;omega
 refine Q6 (fun f W=>W.heap[np]? =some (.cells (yb 1 dg bv (.slice ka kz.length kc) false 0 (.iface 180 (.pointer (some ⟨p,0,none⟩)))) 108 (0,0))∧(f=false→Below WA.heap.size WA W)∧(WA.heap.size≤W.heap.size∧(∀b,b<WA.heap.size→b≠p→W.heap[b]? =WA.heap[b]?))∧(f=true→Spare (fun k=>k≠p) WA W∧ ∃hv,QM true W p hv (h0Z true bs) (Qv 128 kz)∧ ∀g,hv.ownBlock=some g→WA.heap.size≤g)) 16 [.v 26 (.pointer (some ⟨np,0,none⟩)),.v 27 (.pointer (some ⟨np,0,none⟩)),.v 28 (.pointer (some ⟨np,6,none⟩)),.v 29 (.iface 180 (.pointer (some ⟨p,0,none⟩))),.v 30 (.pointer (some ⟨np,0,none⟩)),.v 31 (.pointer (some ⟨np,0,none⟩)),.v 32 (.pointer (some ⟨np,3,none⟩)),.v 33 (.slice ka kz.length kc),.v 34 (.pointer (some ⟨np,0,none⟩)),.v 35 (.pointer (some ⟨np,0,none⟩)),.v 36 (.pointer (some ⟨np,0,none⟩)),.v 37 (.int .i64 1),.v 38 (.int .i64 128),.p 39 (fun u W=>W.ownsRow WA.heap.size 5 1 u 128 ((Qv 128 kz).map qp)),.v 40 (.iface 180 (.pointer (some ⟨p,0,none⟩))),.v 41 (.iface 180 (.pointer (some ⟨p,0,none⟩))),.p 42 (fun _ _=>True)] (by exact⟨(fun _ _ hb _ h=>qf h (fun g _ hg=>hb.block g hg)),kW,trivial⟩) ⟨HRA.out,fun _=>Br.drew,⟨Nat.le_refl _,fun _ _ _=>rfl⟩,fun h=>(by cases h)⟩ (fun f W W' h hb=>⟨qc h.1 hb,fun e=>(h.2.1 e).trans (hb.mono (h.2.1 e).size),⟨Nat.le_trans h.2.2.1.1 hb.size,fun b h1 h2=>(hb.block b (Nat.lt_of_lt_of_le h1 h.2.2.1.1)).trans (h.2.2.1.2 b h1 h2)⟩,fun e=>by obtain⟨h1,hv,h2,h3⟩:=h.2.2.2 e;exact⟨h1.trans (Spare.of_below _ hb) (fun _ _ h=>h),hv,yC h2 hb,h3⟩⟩) ?_ ?_ ?_
 ·repeat' (with_reducible first|exact qx|refine qu ?_ ?_)
  all_goals try
   refine .inr ?_;intro A x W f hA hR hf hdep D K hK;have a0:=hA.2 0 (by decide);conv at a0=>rhs;whnf
   simp only[QU,Q4]at D;clear hdep hA;go_simp
   exact hK _ _ BR rfl
  any_goals exact .inl rfl
  all_goals refine .inr ?_
  ·intro A x W f hA hR hf hdep _ K hK;have g28:=gw hA hdep 2 28;clear hdep hA;have g0:=hR.1;have c0:W.cell? ⟨np,6,none⟩=some (.iface 180 (.pointer (some ⟨p,0,none⟩))):=qa g0 6;go_simp
   exact hK _ _ BR rfl
  ·intro A x W f hA hR hf hdep _ K hK;have g32:=gw hA hdep 6 32;clear hdep hA;have g0:=hR.1;have c0:W.cell? ⟨np,3,none⟩=some (.slice ka kz.length kc):=qa g0 3;go_simp
   exact hK _ _ BR rfl
  ·intro A x W f hA hR hf hdep _ K hK;have g36:=gw hA hdep 10 36;clear hdep hA;have g0:=hR.1;have c0:W.cell? ⟨np,0,none⟩=some (.int .i64 1):=qa g0 0;go_simp
   exact hK _ _ BR rfl
  ·intro A x W f hA hR hf hdep _ K hK;have g37:=gw hA hdep 11 37;clear hdep hA;go_simp
   refine(Zg true _).mono ?_;rintro e w' ⟨rfl,hw⟩;exact hK _ _ (by rw[hw];exact Below.refl _ _) rfl
  ·intro A x W f hA hR hf hdep _ K hK;have g33:=gw hA hdep 7 33;have g38:=gw hA hdep 12 38;clear hdep hA;go_simp
   have hKW:Hold W (.slice ka kz.length kc) kz:=HKA.out.keep hR.2.2.1.1 (fun b hb hlt=>hR.2.2.1.2 b hlt (fun e=>hkp (by rw[hb,e])));refine(jf kz _ 128 _ hKW (by omega) (by decide)).mono ?_;rintro e w' ⟨u,rfl,ho,hb⟩;exact hK _ _ hb (ownsRow_le ho hR.2.2.1.1)
 ·intro A x W hA hR hdep K hK;have g41:=gw hA hdep 15 41;have g39:(fun u W=>W.ownsRow WA.heap.size 5 1 u 128 ((Qv 128 kz).map qp)) (x 39) W:=hdep ⟨13,.data⟩ (by simp) rfl;have a39:A.tmps.getD 39 undef=x 39:=hA.1 39 (by decide);clear hdep hA;have hB:=hR.2.1 rfl;go_simp
  refine Yd (f:=210) (by kernel_rfl) ?_;go_simp
  have hbz:=Q9 (n:=128) HK.out.1;have hx39:Hold W (x 39) (Qv 128 kz):=Qj g39 hbz;refine(qaI (h0Z true bs) [] (Qv 128 kz) (QK true bs) (fun _ h=>by cases h) p (.slice none 0 0) (x 39) W (qaH (qc HPA.out hB)) hx39 (fun _ b hb=>⟨fun e=>by have:=ZQ g39 hb;omega,fun e=>by cases e⟩) (by rw[HPZ.out];simp)).mono ?_;rintro e w' ⟨rfl,⟨hv',hE',hO'⟩,hS'⟩
  refine hK _ _ (fun h=>by cases h) ⟨(hS'.block np (Ai hR.1).1 ⟨by omega,fun e=>by cases e⟩).trans hR.1,fun h=>(by cases h),⟨Nat.le_trans hR.2.2.1.1 hS'.size,fun b h1 h2=>(hS'.block b (Nat.lt_of_lt_of_le h1 hR.2.2.1.1) ⟨h2,fun e=>by cases e⟩).trans (hR.2.2.1.2 b h1 h2)⟩,fun _=>⟨(Spare.of_below _ hB).trans hS' (fun b _ h=>⟨h,fun e=>by cases e⟩),hv',hE',fun g hg=>?_⟩⟩ ⟨.inr (fun _ h=>h),.inr (fun _ h=>h),.inr (fun _ h=>h),.inr (fun _ h=>h),.inr (fun _ h=>h),.inr (fun _ h=>h),.inr (fun _ h=>h),.inr (fun _ h=>h),.inr (fun _ h=>h),.inr (fun _ h=>h),.inr (fun _ h=>h),.inr (fun _ h=>h),.inr (fun _ h=>h),.inr (fun u h=>qf h (fun g h1 h2=>hS'.block g h2 ⟨by omega,fun e=>by cases e⟩)),.inr (fun _ h=>h),.inr (fun _ h=>h),.inl rfl,trivial⟩ trivial;rcases hO' with hO'|hO'
  ·rw[hO']at hg;cases hg
  ·have:=hO' g hg;have:=hB.size;omega
 intro x W hR hall;obtain⟨e39,e42, -⟩:=hall;change (fun u W=>W.ownsRow WA.heap.size 5 1 u 128 ((Qv 128 kz).map qp)) (x 39) W at e39
 change ((fun _ _=>True)) (x 42) W at e42
 simp only[QD,Act.put,Ls];obtain⟨hr9, -, -,h9⟩:=hR;obtain⟨hs9,hv9,hE9,ho9⟩:=h9 rfl;have H9:=hid (show(∃p hv,w.heap.size≤p∧W.heap[np]? =some (.cells (yb 1 dg bv (.slice ka kz.length kc) false 0 (.iface 180 (.pointer (some ⟨p,0,none⟩)))) 108 (0,0))∧QM true W p hv (h0Z true bs) (yk 128 kz)∧(∀g,hv.ownBlock=some g→w.heap.size≤g))∧Spare (fun k=>k≠np) w W from⟨⟨p,hv9,hp1,hr9,by unfold yk;rw[if_neg HK0.out];exact hE9,fun g hg=>Nat.le_trans hs0 (ho9 g hg)⟩,HBA.out.trans hs9 (fun b hb _=>by omega)⟩);clear hr9 hs9 hE9 ho9 h9 e39;go_wp2
 go_end0
 exact⟨rfl,H9.out⟩
theorem qd4 (bs kz:List Int)(np:Nat)(dg wr:Int)(la:Bool)(bv kv e0:Value)(w:World)(hrow:w.heap[np]? =some (.cells (yb 2 dg bv kv la wr e0) 108 (0,0)))(hB:Hold w bv bs)(hK:Hold w kv kz)(hl:bs.length=32)(hkl:kz.length≤32)(hkn:kv.ownBlock≠some np):
  Calls Tryz.prog 75 #[.pointer (some ⟨np,0,none⟩)] w fun e w'=>e= .returned (.tuple #[])∧(∃p hv,w.heap.size≤p∧w'.heap[np]? =some (.cells (yb 2 dg bv kv false 0 (.iface 190 (.pointer (some ⟨p,0,none⟩)))) 108 (0,0))∧QM false w' p hv (h0Z false bs) (yk 64 kz)∧(∀g,hv.ownBlock=some g→w.heap.size≤g))∧Spare (fun k=>k≠np) w w':=by
 have hnp:np<w.heap.size:=(Ai hrow).1;obtain⟨kn,kc,ka,rfl⟩: ∃n c a,kv= .slice a n c:=by obtain⟨a,c,e, -⟩:=hK.slice;exact⟨_,_,_,e⟩
 obtain rfl:kn=kz.length:=hK.of_len;have HROW:=hid hrow;have HB:=hid hB;have HK:=hid hK;have HL:=hid hl;have HKN:=hid hkn;clear hrow hB hK hl hkn;go_enter Tryz.func75,Tryz.ntmps75
 go_upto_region 0 with(fail)
 refine qA (n:=10) (w0:=w) (B:=w.heap.size) [.v 2 (.pointer (some ⟨np,0,none⟩)),.v 3 (.pointer (some ⟨np,0,none⟩)),.v 4 (.pointer (some ⟨np,0,none⟩)),.v 5 (.pointer (some ⟨np,0,none⟩)),.v 6 (.int .i64 2),.v 7 (.pointer (some ⟨np,0,none⟩)),.v 8 (.pointer (some ⟨np,0,none⟩)),.v 9 (.pointer (some ⟨np,2,none⟩)),.v 10 bv,.p 11 (fun u W=> ∃p,u= .iface 190 (.pointer (some ⟨p,0,none⟩))∧w.heap.size≤p∧W.heap[p]? =some (.cells (zg (h0Z false bs) 0 (.slice none 0 0)) 194 (0,0)))] (by exact⟨(fun _ _ _ h hb=>by obtain⟨p,e,h3,h4⟩:=h;exact⟨p,e,h3,qc h4 hb⟩),trivial⟩) Br.drew Nl ?_ ?_
 ·repeat' (with_reducible first|exact qx|refine qu ?_ ?_)
  all_goals try
   intro A x W hA hW hBW hdep D K hK;have a0:=hA.2 0 (by decide);conv at a0=>rhs;whnf
   simp only[QU,Q4]at D;clear hdep hA;go_simp
   exact hK _ _ BR rfl
  ·intro A x W hA hW hBW hdep _ K hK;have g5:=gv hA hdep 3 5;clear hdep hA;have g0:=qc HROW.out hW;have c0:W.cell? ⟨np,0,none⟩=some (.int .i64 2):=qa g0 0;go_simp
   exact hK _ _ BR rfl
  ·intro A x W hA hW hBW hdep _ K hK;have g9:=gv hA hdep 7 9;clear hdep hA;have g0:=qc HROW.out hW;have c0:W.cell? ⟨np,2,none⟩=some bv:=qa g0 2;go_simp
   exact hK _ _ BR rfl
  ·intro A x W hA hW hBW hdep _ K hK;have g6:=gv hA hdep 4 6;have g10:=gv hA hdep 8 10;clear hdep hA;go_simp
   refine(qd3 bs bv _ (HB.out.holds8.mono_below hW Nl) HB.out.1 HL.out).mono ?_;rintro e w' ⟨p,rfl,h1,h2,hb⟩;exact hK _ _ hb ⟨p,rfl,Nat.le_trans hBW h1,h2⟩
 intro x W hW hBW hall;obtain⟨e11, -⟩:=hall;change (fun u W=> ∃p,u= .iface 190 (.pointer (some ⟨p,0,none⟩))∧w.heap.size≤p∧W.heap[p]? =some (.cells (zg (h0Z false bs) 0 (.slice none 0 0)) 194 (0,0))) (x 11) W at e11
 obtain⟨p,e11,hp1,hp2⟩:=e11;refine qn ?_;simp only[QD,Act.put,Ls,e11];clear e11;have hr1:=qc HROW.out hW;have HP2:=hid hp2;have HR1:=hid hr1;have HW:=hid hW;have hnp1:np<W.heap.size:=(Ai hr1).1;have c6:W.cell? ⟨np,6,none⟩=some e0:=qa hr1 6;have f6:=frozen_of_row W np 6 _ _ hr1;clear hp2 hr1 hW hBW x;go_wp2_with fail
 refine qn ?_;go_wp2_with fail
 refine qn ?_;go_wp2_with fail
 refine qs ?_;have hrA:=qgM (v:= .iface 190 (.pointer (some ⟨p,0,none⟩))) HR1.out;have hbA:Spare (fun k=>k≠np) w (W.setCell ⟨np,6,none⟩ (.iface 190 (.pointer (some ⟨p,0,none⟩)))):=(Spare.of_below _ HW.out).trans (Spare.of_but ((But.refl np W).set 6 _)) (fun _ _ h=>h);have hpA:(W.setCell ⟨np,6,none⟩ (.iface 190 (.pointer (some ⟨p,0,none⟩)))).heap[p]? =some (.cells (zg (h0Z false bs) 0 (.slice none 0 0)) 194 (0,0)):=(heap_setCell_other W _ _ _ (by show p≠np;omega)).trans HP2.out;generalize W.setCell ⟨np,6,none⟩ (.iface 190 (.pointer (some ⟨p,0,none⟩)))=WA at*;clear HW HR1 HP2 c6 f6 hnp1 W;have c4:WA.cell? ⟨np,4,none⟩=some (.bool la):=qa hrA 4;have f4:=frozen_of_row WA np 4 _ _ hrA;have hnpA:np<WA.heap.size:=(Ai hrA).1;have HRA:=hid hrA;have HBA:=hid hbA;have HPA:=hid hpA;clear hrA hbA hpA;go_upto_region 2 with(fail)
 have hrA:=ji (b:=false) HRA.out;have hbA:Spare (fun k=>k≠np) w (WA.setCell ⟨np,4,none⟩ (.bool false)):=HBA.out.trans (Spare.of_but ((But.refl np WA).set 4 _)) (fun _ _ h=>h);have hpA:(WA.setCell ⟨np,4,none⟩ (.bool false)).heap[p]? =some (.cells (zg (h0Z false bs) 0 (.slice none 0 0)) 194 (0,0)):=(heap_setCell_other WA _ _ _ (by show p≠np;omega)).trans HPA.out;generalize WA.setCell ⟨np,4,none⟩ (.bool false)=A1 at*;clear HBA HRA HPA c4 f4 hnpA WA;obtain⟨WA,rfl⟩:=Ex A1;have HRA:=hid hrA;have HBA:=hid hbA;have HPA:=hid hpA;have hnpA:np<A1.heap.size:=(Ai hrA).1;have c5:A1.cell? ⟨np,5,none⟩=some (.int .u64 wr):=qa hrA 5;have f5:=frozen_of_row A1 np 5 _ _ hrA;clear hrA hbA hpA;go_upto_region 3 with(fail)
 have hrA:=qfm (x:=0) HRA.out;have hbA:Spare (fun k=>k≠np) w (A1.setCell ⟨np,5,none⟩ (.int .u64 0)):=HBA.out.trans (Spare.of_but ((But.refl np A1).set 5 _)) (fun _ _ h=>h);have hpA:(A1.setCell ⟨np,5,none⟩ (.int .u64 0)).heap[p]? =some (.cells (zg (h0Z false bs) 0 (.slice none 0 0)) 194 (0,0)):=(heap_setCell_other A1 _ _ _ (by show p≠np;omega)).trans HPA.out;have hs0:w.heap.size≤(A1.setCell ⟨np,5,none⟩ (.int .u64 0)).heap.size:=hbA.size;generalize A1.setCell ⟨np,5,none⟩ (.int .u64 0)=WA at*;clear HBA HRA HPA c5 f5 hnpA A1;have c3:WA.cell? ⟨np,3,none⟩=some (.slice ka kz.length kc):=qa hrA 3;have hnpA:np<WA.heap.size:=(Ai hrA).1;have hpA2:p<WA.heap.size:=(Ai hpA).1;have HRA:=hid hrA;have HBA:=hid hbA;have HPA:=hid hpA;clear hrA hbA hpA;by_cases hk0:kz.length=0
 case pos=>
  obtain rfl:kz=[]:=List.eq_nil_of_length_eq_zero hk0;go_wp2
  go_end0
  exact⟨rfl,⟨p,.slice none 0 0,hp1,HRA.out,qaH HPA.out,fun g h=>by cases h⟩,HBA.out⟩
 have hk1:0<kz.length:=by omega
 have hk2:(kz.length:Int)≤32:=by omega
 go_upto_region 4 with(fail)
 have hKA:Hold WA (.slice ka kz.length kc) kz:=HK.out.keep HBA.out.size fun b hb hlt=>HBA.out.block b hlt (fun e=>HKN.out (by rw[hb,e]))
 have HKA:=hid hKA;have hpz:=QC (n:=64) (zs:=kz) (by omega);have HPZ:=hid hpz;have HK0:=hid hk0;clear hKA hpz hk0 c3;have hkp:(Value.slice ka kz.length kc).ownBlock≠some p:=fun e=>by have:=Yp HK.out (fun e=>by rw[e]at hk1;simp at hk1) e;omega
 refine Q6 (fun f W=>W.heap[np]? =some (.cells (yb 2 dg bv (.slice ka kz.length kc) false 0 (.iface 190 (.pointer (some ⟨p,0,none⟩)))) 108 (0,0))∧(f=false→Below WA.heap.size WA W)∧(WA.heap.size≤W.heap.size∧(∀b,b<WA.heap.size→b≠p→W.heap[b]? =WA.heap[b]?))∧(f=true→Spare (fun k=>k≠p) WA W∧ ∃hv,QM false W p hv (h0Z false bs) (Qv 64 kz)∧ ∀g,hv.ownBlock=some g→WA.heap.size≤g)) 16 [.v 26 (.pointer (some ⟨np,0,none⟩)),.v 27 (.pointer (some ⟨np,0,none⟩)),.v 28 (.pointer (some ⟨np,6,none⟩)),.v 29 (.iface 190 (.pointer (some ⟨p,0,none⟩))),.v 30 (.pointer (some ⟨np,0,none⟩)),.v 31 (.pointer (some ⟨np,0,none⟩)),.v 32 (.pointer (some ⟨np,3,none⟩)),.v 33 (.slice ka kz.length kc),.v 34 (.pointer (some ⟨np,0,none⟩)),.v 35 (.pointer (some ⟨np,0,none⟩)),.v 36 (.pointer (some ⟨np,0,none⟩)),.v 37 (.int .i64 2),.v 38 (.int .i64 64),.p 39 (fun u W=>W.ownsRow WA.heap.size 5 1 u 64 ((Qv 64 kz).map qp)),.v 40 (.iface 190 (.pointer (some ⟨p,0,none⟩))),.v 41 (.iface 190 (.pointer (some ⟨p,0,none⟩))),.p 42 (fun _ _=>True)] (by exact⟨(fun _ _ hb _ h=>qf h (fun g _ hg=>hb.block g hg)),kW,trivial⟩) ⟨HRA.out,fun _=>Br.drew,⟨Nat.le_refl _,fun _ _ _=>rfl⟩,fun h=>(by cases h)⟩ (fun f W W' h hb=>⟨qc h.1 hb,fun e=>(h.2.1 e).trans (hb.mono (h.2.1 e).size),⟨Nat.le_trans h.2.2.1.1 hb.size,fun b h1 h2=>(hb.block b (Nat.lt_of_lt_of_le h1 h.2.2.1.1)).trans (h.2.2.1.2 b h1 h2)⟩,fun e=>by obtain⟨h1,hv,h2,h3⟩:=h.2.2.2 e;exact⟨h1.trans (Spare.of_below _ hb) (fun _ _ h=>h),hv,yC h2 hb,h3⟩⟩) ?_ ?_ ?_
 ·repeat' (with_reducible first|exact qx|refine qu ?_ ?_)
  all_goals try
   refine .inr ?_;intro A x W f hA hR hf hdep D K hK;have a0:=hA.2 0 (by decide);conv at a0=>rhs;whnf
   simp only[QU,Q4]at D;clear hdep hA;go_simp
   exact hK _ _ BR rfl
  any_goals exact .inl rfl
  all_goals refine .inr ?_
  ·intro A x W f hA hR hf hdep _ K hK;have g28:=gw hA hdep 2 28;clear hdep hA;have g0:=hR.1;have c0:W.cell? ⟨np,6,none⟩=some (.iface 190 (.pointer (some ⟨p,0,none⟩))):=qa g0 6;go_simp
   exact hK _ _ BR rfl
  ·intro A x W f hA hR hf hdep _ K hK;have g32:=gw hA hdep 6 32;clear hdep hA;have g0:=hR.1;have c0:W.cell? ⟨np,3,none⟩=some (.slice ka kz.length kc):=qa g0 3;go_simp
   exact hK _ _ BR rfl
  ·intro A x W f hA hR hf hdep _ K hK;have g36:=gw hA hdep 10 36;clear hdep hA;have g0:=hR.1;have c0:W.cell? ⟨np,0,none⟩=some (.int .i64 2):=qa g0 0;go_simp
   exact hK _ _ BR rfl
  ·intro A x W f hA hR hf hdep _ K hK;have g37:=gw hA hdep 11 37;clear hdep hA;go_simp
   refine(Zg false _).mono ?_;rintro e w' ⟨rfl,hw⟩;exact hK _ _ (by rw[hw];exact Below.refl _ _) rfl
  ·intro A x W f hA hR hf hdep _ K hK;have g33:=gw hA hdep 7 33;have g38:=gw hA hdep 12 38;clear hdep hA;go_simp
   have hKW:Hold W (.slice ka kz.length kc) kz:=HKA.out.keep hR.2.2.1.1 (fun b hb hlt=>hR.2.2.1.2 b hlt (fun e=>hkp (by rw[hb,e])));refine(jf kz _ 64 _ hKW (by omega) (by decide)).mono ?_;rintro e w' ⟨u,rfl,ho,hb⟩;exact hK _ _ hb (ownsRow_le ho hR.2.2.1.1)
 ·intro A x W hA hR hdep K hK;have g41:=gw hA hdep 15 41;have g39:(fun u W=>W.ownsRow WA.heap.size 5 1 u 64 ((Qv 64 kz).map qp)) (x 39) W:=hdep ⟨13,.data⟩ (by simp) rfl;have a39:A.tmps.getD 39 undef=x 39:=hA.1 39 (by decide);clear hdep hA;have hB:=hR.2.1 rfl;go_simp
  refine Yd (f:=216) (by kernel_rfl) ?_;go_simp
  have hbz:=Q9 (n:=64) HK.out.1;have hx39:Hold W (x 39) (Qv 64 kz):=Qj g39 hbz;refine(J7 (h0Z false bs) [] (Qv 64 kz) (QK false bs) (fun _ h=>by cases h) p (.slice none 0 0) (x 39) W (qaH (qc HPA.out hB)) hx39 (fun _ b hb=>⟨fun e=>by have:=ZQ g39 hb;omega,fun e=>by cases e⟩) (by rw[HPZ.out];simp)).mono ?_;rintro e w' ⟨rfl,⟨hv',hE',hO'⟩,hS'⟩
  refine hK _ _ (fun h=>by cases h) ⟨(hS'.block np (Ai hR.1).1 ⟨by omega,fun e=>by cases e⟩).trans hR.1,fun h=>(by cases h),⟨Nat.le_trans hR.2.2.1.1 hS'.size,fun b h1 h2=>(hS'.block b (Nat.lt_of_lt_of_le h1 hR.2.2.1.1) ⟨h2,fun e=>by cases e⟩).trans (hR.2.2.1.2 b h1 h2)⟩,fun _=>⟨(Spare.of_below _ hB).trans hS' (fun b _ h=>⟨h,fun e=>by cases e⟩),hv',hE',fun g hg=>?_⟩⟩ ⟨.inr (fun _ h=>h),.inr (fun _ h=>h),.inr (fun _ h=>h),.inr (fun _ h=>h),.inr (fun _ h=>h),.inr (fun _ h=>h),.inr (fun _ h=>h),.inr (fun _ h=>h),.inr (fun _ h=>h),.inr (fun _ h=>h),.inr (fun _ h=>h),.inr (fun _ h=>h),.inr (fun _ h=>h),.inr (fun u h=>qf h (fun g h1 h2=>hS'.block g h2 ⟨by omega,fun e=>by cases e⟩)),.inr (fun _ h=>h),.inr (fun _ h=>h),.inl rfl,trivial⟩ trivial;rcases hO' with hO'|hO'
  ·rw[hO']at hg;cases hg
  ·have:=hO' g hg;have:=hB.size;omega
 intro x W hR hall;obtain⟨e39,e42, -⟩:=hall;change (fun u W=>W.ownsRow WA.heap.size 5 1 u 64 ((Qv 64 kz).map qp)) (x 39) W at e39
 change ((fun _ _=>True)) (x 42) W at e42
 simp only[QD,Act.put,Ls];obtain⟨hr9, -, -,h9⟩:=hR;obtain⟨hs9,hv9,hE9,ho9⟩:=h9 rfl;have H9:=hid (show(∃p hv,w.heap.size≤p∧W.heap[np]? =some (.cells (yb 2 dg bv (.slice ka kz.length kc) false 0 (.iface 190 (.pointer (some ⟨p,0,none⟩)))) 108 (0,0))∧QM false W p hv (h0Z false bs) (yk 64 kz)∧(∀g,hv.ownBlock=some g→w.heap.size≤g))∧Spare (fun k=>k≠np) w W from⟨⟨p,hv9,hp1,hr9,by unfold yk;rw[if_neg HK0.out];exact hE9,fun g hg=>Nat.le_trans hs0 (ho9 g hg)⟩,HBA.out.trans hs9 (fun b hb _=>by omega)⟩);clear hr9 hs9 hE9 ho9 h9 e39;go_wp2
 go_end0
 exact⟨rfl,H9.out⟩
def Fresh (base:Nat)(W:World)(v:Value)(zs:List Int):Prop:=
 (zs=[]∧v= .slice none 0 0)∨ ∃g cap cur,v= .slice (some ⟨g,0,none⟩) zs.length cap∧base≤g∧W.heap[g]? =some (.cells cur 5 (0,0))∧zs.length≤cap∧cap≤cur.size∧cap≤maxLen∧cur.toList.take zs.length=zs.map qp
theorem Fresh.below {base:Nat}{W W':World}{v:Value}{zs:List Int}(h:Fresh base W v zs)(hb:Below W.heap.size W W'):Fresh base W' v zs:=by
 rcases h with h|⟨g,cap,cur,e,h1,h2,h3⟩
 ·exact .inl h
 ·exact .inr ⟨g,cap,cur,e,h1,qc h2 hb,h3⟩
theorem Fresh.le {base b':Nat}{W:World}{v:Value}{zs:List Int}(h:Fresh base W v zs)(hb:b'≤base):Fresh b' W v zs:=by
 rcases h with h|⟨g,cap,cur,e,h1,h2⟩
 ·exact .inl h
 ·exact .inr ⟨g,cap,cur,e,Nat.le_trans hb h1,h2⟩
theorem Fresh.hold {base:Nat}{W:World}{v:Value}{zs:List Int}(h:Fresh base W v zs)(hz: ∀z∈zs,0≤z∧z≤255):Hold W v zs:=by
 refine⟨hz,?_⟩;rcases h with h|⟨g,cap,cur,rfl,h1,h2,h3,h4,h5,h6⟩
 ·exact .inl h
 ·refine .inr ⟨⟨g,0,none⟩,cap,rfl,h3,h5,.inr ⟨g,0,rfl,(Ai h2).1,fun i hi=>?_⟩⟩;have e:=congrArg (fun l:List Value=>l[i]?) h6;simp only[List.getElem?_take,hi,if_true,List.getElem?_map,Array.getElem?_toList]at e;rw[Nat.zero_add,qa h2 i,e];simp[qp,qo,Lg,hi]
theorem qbf {base g c m:Nat}{W:World}{zs:List Int}(h:W.ownsRow base 5 1 (.slice (some ⟨g,0,none⟩) zs.length c) zs.length (zs.map qp))(hm:m≤zs.length):Fresh base W (.slice (some ⟨g,0,none⟩) m m) (zs.take m):=by
 obtain⟨cur,h2,h3,h4,h5,h6,h7⟩:=zw h;have e:(zs.take m).length=m:=by simp[List.length_take,Nat.min_eq_left hm]
 refine .inr ⟨g,m,cur,by rw[e],h5,h2,by omega,by omega,by omega,?_⟩;rw[e,List.map_take,←h4,List.take_take,Nat.min_eq_left hm]
theorem qfl (big:Bool)(np p:Nat)(kind dg wr:Int)(la:Bool)(bv kv:Value)(w:World)(hrow:w.heap[np]? =some (.cells (yb kind dg bv kv la wr (.iface (phT big) (.pointer (some ⟨p,0,none⟩)))) 108 (0,0))):
  Calls Tryz.prog 76 #[.pointer (some ⟨np,0,none⟩)] w fun e w'=>e= .returned (.bool false)∧w'=w:=by
 have c6:w.cell? ⟨np,6,none⟩=some (.iface (phT big) (.pointer (some ⟨p,0,none⟩))):=qa hrow 6;have hnp:np<w.heap.size:=(Ai hrow).1;clear hrow;go_enter Tryz.func76,Tryz.ntmps76
 go_wp2
 go_ret
 exact⟨rfl,rfl⟩
theorem jg {W:World}{B n:Nat}{v:Value}{xs:List Value}(h:W.ownsRow B 5 1 v n xs):W.ownsRow 0 5 1 v n xs:=ownsRow_le h (Nat.zero_le _)
theorem qcV (h0 msg:List Int)(hh:Words 64 8 h0)(hm: ∀z∈msg,0≤z∧z≤255)(np p m:Nat)(dg wr:Int)(la:Bool)(bv kv hv:Value)(w:World)(hrow:w.heap[np]? =some (.cells (yb 1 dg bv kv la wr (.iface 180 (.pointer (some ⟨p,0,none⟩)))) 108 (0,0)))(hE:QM true w p hv h0 msg)(hlen:(msg.length:Int)≤281474976710656)(hm1:1≤m)(hm2:m≤64):
  Calls Tryz.prog 54 #[.pointer (some ⟨np,0,none⟩),.int .i64 (m:Nat)] w fun e w'=>(∃v,e= .returned (.tuple #[v,.int .i64 0])∧Fresh w.heap.size w' v ((zc true h0 msg la).take m))∧Below w.heap.size w w':=by
 have hN:=qfl true np p 1 dg wr la bv kv w hrow;have c0:w.cell? ⟨np,0,none⟩=some (.int .i64 1):=qa hrow 0;have hnp:np<w.heap.size:=(Ai hrow).1;have HN:=hid hN;have HROW:=hid hrow;have HO:=hid (fun(W:World) (h:QM true W p hv h0 msg)=>qgK h0 msg la hh hm p hv W h hlen);have HE:=hid hE;have hol:=zz true h0 msg la;generalize zc true h0 msg la=Z at*;have HOL:=hid (show Z.length=64 from hol);clear hN hrow hE hh hm hlen hol;have hm3:1≤(m:Int)∧(m:Int)≤64:=by omega
 obtain⟨hm3,hm4⟩:=hm3;go_enter Tryz.func54,Tryz.ntmps54
 go_wp2_with fail
 refine HN.out.mono ?_;rintro e w1 ⟨rfl,hw⟩;rw[hw];clear hw;go_wp2_with fail
 refine(Zg true _).mono ?_;rintro e w1 ⟨rfl,hw⟩;rw[hw];clear hw;rw[show((bB true:Nat):Int)=128 from rfl];go_upto_region 5 with(fail)
 clear c0;refine qA (n:=16) (w0:=w) (B:=w.heap.size) [.v 20 (.pointer (some ⟨np,0,none⟩)),.v 21 (.pointer (some ⟨np,0,none⟩)),.v 22 (.pointer (some ⟨np,6,none⟩)),.v 23 (.iface 180 (.pointer (some ⟨p,0,none⟩))),.v 24 (.pointer (some ⟨np,0,none⟩)),.v 25 (.pointer (some ⟨np,0,none⟩)),.v 26 (.pointer (some ⟨np,4,none⟩)),.v 27 (.bool la),.v 28 (.iface 180 (.pointer (some ⟨p,0,none⟩))),.v 29 (.iface 180 (.pointer (some ⟨p,0,none⟩))),.p 30 (fun u W=>W.ownsRow w.heap.size 5 1 u 64 (Z.map qp)),.v 31 (.int .i64 (m:Nat)),.v 32 (.int .i64 (m:Nat)),.p 33 (fun u W=>Fresh w.heap.size W u (Z.take m)),.p 4 (fun u W=>Fresh w.heap.size W u (Z.take m)),.v 5 (.int .i64 0)] (by exact⟨(fun _ _ _ h hb=>qf h (fun g _ hg=>hb.block g hg)),(fun _ _ _ h hb=>h.below hb),(fun _ _ _ h hb=>h.below hb),trivial⟩) Br.drew Nl ?_ ?_
 ·repeat' (with_reducible first|exact qx|refine qu ?_ ?_)
  all_goals try
   intro A x W hA hW hBW hdep D K hK;have a0:=hA.2 0 (by decide);conv at a0=>rhs;whnf
   have a1:=hA.2 1 (by decide);conv at a1=>rhs;whnf
   simp only[QU,Q4]at D;clear hdep hA;go_simp
   exact hK _ _ BR rfl
  ·intro A x W hA hW hBW hdep _ K hK;have g22:=gv hA hdep 2 22;clear hdep hA;have g0:=qc HROW.out hW;have c0:W.cell? ⟨np,6,none⟩=some (.iface 180 (.pointer (some ⟨p,0,none⟩))):=qa g0 6;go_simp
   exact hK _ _ BR rfl
  ·intro A x W hA hW hBW hdep _ K hK;have g26:=gv hA hdep 6 26;clear hdep hA;have g0:=qc HROW.out hW;have c0:W.cell? ⟨np,4,none⟩=some (.bool la):=qa g0 4;go_simp
   exact hK _ _ BR rfl
  ·intro A x W hA hW hBW hdep _ K hK;have g29:=gv hA hdep 9 29;have g27:=gv hA hdep 7 27;clear hdep hA;go_simp
   refine Yd (f:=208) (by kernel_rfl) ?_;go_simp
   refine(HO.out _ (yC HE.out hW)).mono ?_;rintro e w' ⟨u,rfl,ho,hb⟩;exact hK _ _ hb (ownsRow_le ho hBW)
  ·intro A x W hA hW hBW hdep _ K hK;have g30:(fun u W=>W.ownsRow w.heap.size 5 1 u 64 (Z.map qp)) (x 30) W:=hdep ⟨10,.data⟩ (by simp) rfl _ rfl;have a30:A.tmps.getD 30 undef=x 30:=hA.1 30 (by decide);have g31:=gv hA hdep 11 31;have g32:=gv hA hdep 12 32;clear hdep hA;obtain⟨s1,s2,s3,e30⟩:=qq g30;rw[e30]at g30 a30;obtain rfl:s2=64:=yL g30;obtain⟨gg,rfl⟩:=ZP (jg g30) (by decide);obtain⟨cu, -, -, -, -,hk1,hk2⟩:=zw g30;have hk3:(s3:Int)≤9223372036854775807:=by unfold maxLen at hk2;omega
   have hk4:(m:Int)≤s3:=by omega
   have hk5:64≤(s3:Int):=by omega
   have hft:=qbf (m:=m) (zs:=Z) (c:=s3) (by rw[HOL.out];exact g30) (by rw[HOL.out];exact hm2);have HFT:=hid hft;clear hft;go_simp
   exact hK _ _ Br HFT.out
  ·intro A x W hA hW hBW hdep _ K hK;have g33:(fun u W=>Fresh w.heap.size W u (Z.take m)) (x 33) W:=hdep ⟨13,.data⟩ (by simp) rfl _ rfl;have a33:A.tmps.getD 33 undef=x 33:=hA.1 33 (by decide);clear hdep hA;go_simp
   exact hK _ _ Br (a33▸g33)
 intro x W hW hBW hall;obtain⟨e30,e33,e4, -⟩:=hall;change (fun u W=>W.ownsRow w.heap.size 5 1 u 64 (Z.map qp)) (x 30) W at e30
 change (fun u W=>Fresh w.heap.size W u (Z.take m)) (x 33) W at e33
 change (fun u W=>Fresh w.heap.size W u (Z.take m)) (x 4) W at e4
 refine qs ?_;simp only[QD,Act.put,Ls];have E4:=hid e4;have HW:=hid hW;clear e4 e30 e33 hW;go_wp2
 go_ret2
 exact⟨⟨_,rfl,E4.out⟩,HW.out⟩
theorem qbS (h0 msg:List Int)(hh:Words 32 8 h0)(hm: ∀z∈msg,0≤z∧z≤255)(np p m:Nat)(dg wr:Int)(la:Bool)(bv kv hv:Value)(w:World)(hrow:w.heap[np]? =some (.cells (yb 2 dg bv kv la wr (.iface 190 (.pointer (some ⟨p,0,none⟩)))) 108 (0,0)))(hE:QM false w p hv h0 msg)(hlen:(msg.length:Int)≤281474976710656)(hm1:1≤m)(hm2:m≤32):
  Calls Tryz.prog 54 #[.pointer (some ⟨np,0,none⟩),.int .i64 (m:Nat)] w fun e w'=>(∃v,e= .returned (.tuple #[v,.int .i64 0])∧Fresh w.heap.size w' v ((zc false h0 msg la).take m))∧Below w.heap.size w w':=by
 have hN:=qfl false np p 2 dg wr la bv kv w hrow;have c0:w.cell? ⟨np,0,none⟩=some (.int .i64 2):=qa hrow 0;have hnp:np<w.heap.size:=(Ai hrow).1;have HN:=hid hN;have HROW:=hid hrow;have HO:=hid (fun(W:World) (h:QM false W p hv h0 msg)=>qfU h0 msg la hh hm p hv W h hlen);have HE:=hid hE;have hol:=zz false h0 msg la;generalize zc false h0 msg la=Z at*;have HOL:=hid (show Z.length=32 from hol);clear hN hrow hE hh hm hlen hol;have hm3:1≤(m:Int)∧(m:Int)≤32:=by omega
 obtain⟨hm3,hm4⟩:=hm3;go_enter Tryz.func54,Tryz.ntmps54
 go_wp2_with fail
 refine HN.out.mono ?_;rintro e w1 ⟨rfl,hw⟩;rw[hw];clear hw;go_wp2_with fail
 refine(Zg false _).mono ?_;rintro e w1 ⟨rfl,hw⟩;rw[hw];clear hw;rw[show((bB false:Nat):Int)=64 from rfl];go_upto_region 5 with(fail)
 clear c0;refine qA (n:=16) (w0:=w) (B:=w.heap.size) [.v 20 (.pointer (some ⟨np,0,none⟩)),.v 21 (.pointer (some ⟨np,0,none⟩)),.v 22 (.pointer (some ⟨np,6,none⟩)),.v 23 (.iface 190 (.pointer (some ⟨p,0,none⟩))),.v 24 (.pointer (some ⟨np,0,none⟩)),.v 25 (.pointer (some ⟨np,0,none⟩)),.v 26 (.pointer (some ⟨np,4,none⟩)),.v 27 (.bool la),.v 28 (.iface 190 (.pointer (some ⟨p,0,none⟩))),.v 29 (.iface 190 (.pointer (some ⟨p,0,none⟩))),.p 30 (fun u W=>W.ownsRow w.heap.size 5 1 u 32 (Z.map qp)),.v 31 (.int .i64 (m:Nat)),.v 32 (.int .i64 (m:Nat)),.p 33 (fun u W=>Fresh w.heap.size W u (Z.take m)),.p 4 (fun u W=>Fresh w.heap.size W u (Z.take m)),.v 5 (.int .i64 0)] (by exact⟨(fun _ _ _ h hb=>qf h (fun g _ hg=>hb.block g hg)),(fun _ _ _ h hb=>h.below hb),(fun _ _ _ h hb=>h.below hb),trivial⟩) Br.drew Nl ?_ ?_
 ·repeat' (with_reducible first|exact qx|refine qu ?_ ?_)
  all_goals try
   intro A x W hA hW hBW hdep D K hK;have a0:=hA.2 0 (by decide);conv at a0=>rhs;whnf
   have a1:=hA.2 1 (by decide);conv at a1=>rhs;whnf
   simp only[QU,Q4]at D;clear hdep hA;go_simp
   exact hK _ _ BR rfl
  ·intro A x W hA hW hBW hdep _ K hK;have g22:=gv hA hdep 2 22;clear hdep hA;have g0:=qc HROW.out hW;have c0:W.cell? ⟨np,6,none⟩=some (.iface 190 (.pointer (some ⟨p,0,none⟩))):=qa g0 6;go_simp
   exact hK _ _ BR rfl
  ·intro A x W hA hW hBW hdep _ K hK;have g26:=gv hA hdep 6 26;clear hdep hA;have g0:=qc HROW.out hW;have c0:W.cell? ⟨np,4,none⟩=some (.bool la):=qa g0 4;go_simp
   exact hK _ _ BR rfl
  ·intro A x W hA hW hBW hdep _ K hK;have g29:=gv hA hdep 9 29;have g27:=gv hA hdep 7 27;clear hdep hA;go_simp
   refine Yd (f:=214) (by kernel_rfl) ?_;go_simp
   refine(HO.out _ (yC HE.out hW)).mono ?_;rintro e w' ⟨u,rfl,ho,hb⟩;exact hK _ _ hb (ownsRow_le ho hBW)
  ·intro A x W hA hW hBW hdep _ K hK;have g30:(fun u W=>W.ownsRow w.heap.size 5 1 u 32 (Z.map qp)) (x 30) W:=hdep ⟨10,.data⟩ (by simp) rfl _ rfl;have a30:A.tmps.getD 30 undef=x 30:=hA.1 30 (by decide);have g31:=gv hA hdep 11 31;have g32:=gv hA hdep 12 32;clear hdep hA;obtain⟨s1,s2,s3,e30⟩:=qq g30;rw[e30]at g30 a30;obtain rfl:s2=32:=yL g30;obtain⟨gg,rfl⟩:=ZP (jg g30) (by decide);obtain⟨cu, -, -, -, -,hk1,hk2⟩:=zw g30;have hk3:(s3:Int)≤9223372036854775807:=by unfold maxLen at hk2;omega
   have hk4:(m:Int)≤s3:=by omega
   have hk5:32≤(s3:Int):=by omega
   have hft:=qbf (m:=m) (zs:=Z) (c:=s3) (by rw[HOL.out];exact g30) (by rw[HOL.out];exact hm2);have HFT:=hid hft;clear hft;go_simp
   exact hK _ _ Br HFT.out
  ·intro A x W hA hW hBW hdep _ K hK;have g33:(fun u W=>Fresh w.heap.size W u (Z.take m)) (x 33) W:=hdep ⟨13,.data⟩ (by simp) rfl _ rfl;have a33:A.tmps.getD 33 undef=x 33:=hA.1 33 (by decide);clear hdep hA;go_simp
   exact hK _ _ Br (a33▸g33)
 intro x W hW hBW hall;obtain⟨e30,e33,e4, -⟩:=hall;change (fun u W=>W.ownsRow w.heap.size 5 1 u 32 (Z.map qp)) (x 30) W at e30
 change (fun u W=>Fresh w.heap.size W u (Z.take m)) (x 33) W at e33
 change (fun u W=>Fresh w.heap.size W u (Z.take m)) (x 4) W at e4
 refine qs ?_;simp only[QD,Act.put,Ls];have E4:=hid e4;have HW:=hid hW;clear e4 e30 e33 hW;go_wp2
 go_ret2
 exact⟨⟨_,rfl,E4.out⟩,HW.out⟩
theorem qfZ (bs kz:List Int)(dg:Int)(bv kv:Value)(w:World)(hB:Hold w bv bs)(hK:Hold w kv kz)(hl:bs.length=64)(hkl:kz.length≤64):
  Calls Tryz.prog 53 #[.int .i64 1,bv,.int .i64 dg,kv] w fun e w'=> ∃np p hv bv' kv',e= .returned (.pointer (some ⟨np,0,none⟩))∧w.heap.size≤np∧w.heap.size≤p∧w'.heap[np]? =some (.cells (yb 1 dg bv' kv' false 0 (.iface 180 (.pointer (some ⟨p,0,none⟩)))) 108 (0,0))∧QM true w' p hv (h0Z true bs) (yk 128 kz)∧(∀g,hv.ownBlock=some g→w.heap.size≤g)∧Below w.heap.size w w':=by
 obtain⟨i0,hi,hz0,hz1,hz2⟩:=info_parts Qq;obtain⟨b0,hb0⟩:=Ex w.heap.size;have hs1:=hB.src;have hs2:=hK.src;rw[hl]at hs1;have HS1:=hid hs1;have HS2:=hid hs2;have HZ1:=hid hB.1;have HZ2:=hid hK.1;have HL:=hid hl;clear hs1 hs2 hB hK hl;go_enter Tryz.func53,Tryz.ntmps53
 go_upto_region 2 with(first|((with_reducible show wpList _ _ _ (Oper.mk (some 13) _ _ _ _ _::_) _ _);refine qI rfl _ _ _ rfl w w.heap.size rfl Br 5 i0 (.int .u8 0) 1 Tryz.underlying24 hi hz0 hz1 hz2 rfl _ 0 [] rfl (Wo _ _ _ _) bv 64 _ rfl HS1.out (by unfold maxLen;omega) (by omega) ?_;intro v1 w1 ho1 hb1;have HO1:=hid ho1;have HB1:=hid hb1;clear ho1 hb1)|((with_reducible show wpList _ _ _ (Oper.mk (some 15) _ _ _ _ _::_) _ _);refine qI rfl _ _ _ rfl w1 w1.heap.size rfl Br 5 i0 (.int .u8 0) 1 Tryz.underlying24 hi hz0 hz1 hz2 rfl _ 0 [] rfl (Wo _ _ _ _) kv kz.length _ rfl (HS2.out.below HB1.out) (by unfold maxLen;omega) (by omega) ?_;intro v2 w2 ho2 hb2;obtain⟨a1,n1,c1,rfl⟩:=qq HO1.out;obtain⟨a2,n2,c2,rfl⟩:=qq ho2;have HO2:=hid ho2;have HB2:=hid hb2;clear ho2 hb2))
 have hs1:=HB1.out.size;have hs2:=HB2.out.size;have hb3:Below w2.heap.size w2 (w2.alloc (.cells (yb 1 dg (.slice a1 n1 c1) (.slice a2 n2 c2) false 0 .nilIface) 108)):=Br.alloc Nl _;have hr3:=Wn w2 (.cells (yb 1 dg (.slice a1 n1 c1) (.slice a2 n2 c2) false 0 .nilIface) 108);have ho1:=HO1.out;have ho2:=HO2.out;simp only[List.nil_append,Nat.zero_add]at ho1 ho2;have ho1:=qf ho1 (fun g _ hg=>HB2.out.block g hg);have hh1:=(Qj ho1 HZ1.out).below hb3;have hh2:=(Qj ho2 HZ2.out).below hb3;have hkn:(Value.slice a2 n2 c2).ownBlock≠some w2.heap.size:=fun e=>by
  rcases ho2.2 with⟨h, -⟩|⟨g,cap,cur,h,h1,h2, -⟩
  ·rw[h]at e;cases e
  ·rw[h]at e;simp only[Value.ownBlock,Option.some.injEq]at e;have:=(Ai h2).1;omega
 have hBG:=qfd bs kz w2.heap.size dg 0 false (.slice a1 n1 c1) (.slice a2 n2 c2) .nilIface _ hr3 hh1 hh2 HL.out hkl hkn;have hbw:Below w.heap.size w (w2.alloc (.cells (yb 1 dg (.slice a1 n1 c1) (.slice a2 n2 c2) false 0 .nilIface) 108)):=HB1.out.trans ((HB2.out.trans (hb3.mono hs2)).mono hs1);have HBG:=hid hBG;have HBW:=hid hbw;clear hBG hbw hb3 hr3 ho1 ho2 hh1 hh2 hkn HO1 HO2 HB1 HB2;go_wp2_with fail
 refine HBG.out.mono ?_;rintro e w4 ⟨rfl,⟨p,hv,h1,h2,h3,h4⟩,h5⟩;have HF:=hid (show w.heap.size≤p∧w4.heap[w2.heap.size]? =some (.cells (yb 1 dg (.slice a1 n1 c1) (.slice a2 n2 c2) false 0 (.iface 180 (.pointer (some ⟨p,0,none⟩)))) 108 (0,0))∧QM true w4 p hv (h0Z true bs) (yk 128 kz)∧(∀g,hv.ownBlock=some g→w.heap.size≤g)∧Below w.heap.size w w4 from⟨by have:=HBW.out.size;omega,h2,h3,fun g hg=>by have:=h4 g hg;have:=HBW.out.size;omega,HBW.out.trans (h5.below HBW.out.size (fun k hk=>by omega))⟩);clear h1 h2 h3 h4 h5 HBG HBW;have hs3:w.heap.size≤w2.heap.size:=by omega
 go_wp2
 go_ret
 obtain⟨h1,h2,h3,h4,h5⟩:=HF.out;exact⟨_,p,hv,_,_,rfl,hs3,h1,h2,h3,h4,h5⟩
theorem qeO (bs kz:List Int)(dg:Int)(bv kv:Value)(w:World)(hB:Hold w bv bs)(hK:Hold w kv kz)(hl:bs.length=32)(hkl:kz.length≤32):
  Calls Tryz.prog 53 #[.int .i64 2,bv,.int .i64 dg,kv] w fun e w'=> ∃np p hv bv' kv',e= .returned (.pointer (some ⟨np,0,none⟩))∧w.heap.size≤np∧w.heap.size≤p∧w'.heap[np]? =some (.cells (yb 2 dg bv' kv' false 0 (.iface 190 (.pointer (some ⟨p,0,none⟩)))) 108 (0,0))∧QM false w' p hv (h0Z false bs) (yk 64 kz)∧(∀g,hv.ownBlock=some g→w.heap.size≤g)∧Below w.heap.size w w':=by
 obtain⟨i0,hi,hz0,hz1,hz2⟩:=info_parts Qq;obtain⟨b0,hb0⟩:=Ex w.heap.size;have hs1:=hB.src;have hs2:=hK.src;rw[hl]at hs1;have HS1:=hid hs1;have HS2:=hid hs2;have HZ1:=hid hB.1;have HZ2:=hid hK.1;have HL:=hid hl;clear hs1 hs2 hB hK hl;go_enter Tryz.func53,Tryz.ntmps53
 go_upto_region 2 with(first|((with_reducible show wpList _ _ _ (Oper.mk (some 13) _ _ _ _ _::_) _ _);refine qI rfl _ _ _ rfl w w.heap.size rfl Br 5 i0 (.int .u8 0) 1 Tryz.underlying24 hi hz0 hz1 hz2 rfl _ 0 [] rfl (Wo _ _ _ _) bv 32 _ rfl HS1.out (by unfold maxLen;omega) (by omega) ?_;intro v1 w1 ho1 hb1;have HO1:=hid ho1;have HB1:=hid hb1;clear ho1 hb1)|((with_reducible show wpList _ _ _ (Oper.mk (some 15) _ _ _ _ _::_) _ _);refine qI rfl _ _ _ rfl w1 w1.heap.size rfl Br 5 i0 (.int .u8 0) 1 Tryz.underlying24 hi hz0 hz1 hz2 rfl _ 0 [] rfl (Wo _ _ _ _) kv kz.length _ rfl (HS2.out.below HB1.out) (by unfold maxLen;omega) (by omega) ?_;intro v2 w2 ho2 hb2;obtain⟨a1,n1,c1,rfl⟩:=qq HO1.out;obtain⟨a2,n2,c2,rfl⟩:=qq ho2;have HO2:=hid ho2;have HB2:=hid hb2;clear ho2 hb2))
 have hs1:=HB1.out.size;have hs2:=HB2.out.size;have hb3:Below w2.heap.size w2 (w2.alloc (.cells (yb 2 dg (.slice a1 n1 c1) (.slice a2 n2 c2) false 0 .nilIface) 108)):=Br.alloc Nl _;have hr3:=Wn w2 (.cells (yb 2 dg (.slice a1 n1 c1) (.slice a2 n2 c2) false 0 .nilIface) 108);have ho1:=HO1.out;have ho2:=HO2.out;simp only[List.nil_append,Nat.zero_add]at ho1 ho2;have ho1:=qf ho1 (fun g _ hg=>HB2.out.block g hg);have hh1:=(Qj ho1 HZ1.out).below hb3;have hh2:=(Qj ho2 HZ2.out).below hb3;have hkn:(Value.slice a2 n2 c2).ownBlock≠some w2.heap.size:=fun e=>by
  rcases ho2.2 with⟨h, -⟩|⟨g,cap,cur,h,h1,h2, -⟩
  ·rw[h]at e;cases e
  ·rw[h]at e;simp only[Value.ownBlock,Option.some.injEq]at e;have:=(Ai h2).1;omega
 have hBG:=qd4 bs kz w2.heap.size dg 0 false (.slice a1 n1 c1) (.slice a2 n2 c2) .nilIface _ hr3 hh1 hh2 HL.out hkl hkn;have hbw:Below w.heap.size w (w2.alloc (.cells (yb 2 dg (.slice a1 n1 c1) (.slice a2 n2 c2) false 0 .nilIface) 108)):=HB1.out.trans ((HB2.out.trans (hb3.mono hs2)).mono hs1);have HBG:=hid hBG;have HBW:=hid hbw;clear hBG hbw hb3 hr3 ho1 ho2 hh1 hh2 hkn HO1 HO2 HB1 HB2;go_wp2_with fail
 refine HBG.out.mono ?_;rintro e w4 ⟨rfl,⟨p,hv,h1,h2,h3,h4⟩,h5⟩;have HF:=hid (show w.heap.size≤p∧w4.heap[w2.heap.size]? =some (.cells (yb 2 dg (.slice a1 n1 c1) (.slice a2 n2 c2) false 0 (.iface 190 (.pointer (some ⟨p,0,none⟩)))) 108 (0,0))∧QM false w4 p hv (h0Z false bs) (yk 64 kz)∧(∀g,hv.ownBlock=some g→w.heap.size≤g)∧Below w.heap.size w w4 from⟨by have:=HBW.out.size;omega,h2,h3,fun g hg=>by have:=h4 g hg;have:=HBW.out.size;omega,HBW.out.trans (h5.below HBW.out.size (fun k hk=>by omega))⟩);clear h1 h2 h3 h4 h5 HBG HBW;have hs3:w.heap.size≤w2.heap.size:=by omega
 go_wp2
 go_ret
 obtain⟨h1,h2,h3,h4,h5⟩:=HF.out;exact⟨_,p,hv,_,_,rfl,hs3,h1,h2,h3,h4,h5⟩
end Go.Proofs.YtdndeffmlhaipaaGreat
