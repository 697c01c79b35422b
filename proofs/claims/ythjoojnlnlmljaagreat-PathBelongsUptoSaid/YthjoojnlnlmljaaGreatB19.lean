/- A round of the mixing, by the program, both kinds. No condition. -/
import Derived.Test.YthjoojnlnlmljaaGreatP00
import Derived.Test.YthjoojnlnlmljaaGreatB18
set_option linter.all false
set_option maxRecDepth 100000
set_option maxHeartbeats 8000000
namespace Go.Proofs.YthjoojnlnlmljaaGreat
open Go.ChangeShapes Go.WideShapes Go.ChangeAt Go.RowKit Go.Joins
open Go.Lib (hid)
attribute [local go_sem] Oper.semAt_some
theorem Y8 {P:Program}{w:World}(t:TypeId)(cs:Array Value)(k:IntKind)(i:Int)(h:P.underlying t=some (.array (P.arrayLen t) (P.elem t))):
  (Instr.index t (.agg cs) (.int k i)).run P w=if 0≤i∧i<P.arrayLen t then((sizeOf (P.elem t)).run P w).andThen fun s w=>(part (P.elem t) cs (i.toNat*s)).run P w else(boundsPanic k i (P.arrayLen t) .index).run P w:=by
 simp only[Instr.index,Sem.run_bind,run_underlying h,asIntOf,Sem.run_pure,Result.andThen_ok];split<;>simp
attribute [local go_sem] Y8
structure MixOk (K:MixK):Prop where
 wrap: ∀z,K.k.wrap z=z%2^K.n
 r2:K.r2≤K.n
 r1:K.r1≤K.n
 r3:K.r3≤K.n
 r4:K.r4≤K.n
theorem QL:MixOk mixBig:=⟨fun z=>IntKind.wrap_u64 z,by decide,by decide,by decide,by decide⟩
theorem Qr:MixOk mixSmall:=⟨fun z=>IntKind.wrap_u32 z,by decide,by decide,by decide,by decide⟩
theorem qfz {K:MixK}(o:MixOk K){L:List Int}(q:Words K.n 16 L)(a b c d:Nat)(x y:Int):Words K.n 16 (K.step L a b c d x y):=by
 unfold MixK.step;refine Words.set (Words.set (Words.set (Words.set q ?_) ?_) ?_) ?_
 ·exact JE _ _
 ·exact jk o.r3 (Qd _ _ _ o.wrap _ _)
 ·exact JE _ _
 ·exact jk o.r4 (Qd _ _ _ o.wrap _ _)
theorem qJ {K:MixK}(o:MixOk K){L M:List Int}(q:Words K.n 16 L)(r:Nat): ∀i,Words K.n 16 (K.turns L M r i)
 | 0=>q
 | i+1=>qfz o (qJ o q r i) _ _ _ _ _ _
theorem Q8 {K:MixK}(o:MixOk K){L M:List Int}(q:Words K.n 16 L): ∀i,Words K.n 16 (K.rounds L M i)
 | 0=>q
 | i+1=>qJ o (Q8 o q i) _ _
theorem qcL (r:Nat)(o:r<12)(w:World):Calls Tryz.prog 227 #[.int .i64 r] w fun e w'=>e= .returned (.agg #[.int .i64 (qu r 0),.int .i64 (qu r 1),.int .i64 (qu r 2),.int .i64 (qu r 3),.int .i64 (qu r 4),.int .i64 (qu r 5),.int .i64 (qu r 6),.int .i64 (qu r 7),.int .i64 (qu r 8),.int .i64 (qu r 9),.int .i64 (qu r 10),.int .i64 (qu r 11),.int .i64 (qu r 12),.int .i64 (qu r 13),.int .i64 (qu r 14),.int .i64 (qu r 15)])∧Below w.heap.size w w':=by
 have q: ∀r<12,[qu r 0,qu r 1,qu r 2,qu r 3,qu r 4,qu r 5,qu r 6,qu r 7,qu r 8,qu r 9,qu r 10,qu r 11,qu r 12,qu r 13,qu r 14,qu r 15]=qaf r:=by decide+kernel
 refine(qhf r o w).mono ?_;rintro e w' ⟨rfl,D⟩
 exact⟨by rw[←q r o];rfl,D⟩
theorem qfU (w:World):Calls Tryz.prog 228 #[] w fun e w'=>e= .returned (.agg Kj)∧Below w.heap.size w w':=by
 refine(qfV w).mono ?_;rintro e w' ⟨rfl,o⟩
 exact⟨rfl,o⟩
theorem qdH (w:World):Calls Tryz.prog 230 #[] w fun e w'=>e= .returned (.agg zS)∧Below w.heap.size w w':=by
 go_enter Tryz.func230,Tryz.ntmps230
 go_upto_region 1 with(fail)
 apply wp_region_lit
 refine wpList_buildTo rfl 330 _ rfl (some 1) rfl (yN (Y2 0)) (by kernel_rfl) ?_;simp only[Act.put,Ls];refine wpList_buildTo rfl 330 _ rfl (some 2) rfl (yN (Y2 1)) (by kernel_rfl) ?_;simp only[Act.put,Ls];refine wpList_buildTo rfl 330 _ rfl (some 3) rfl (yN (Y2 2)) (by kernel_rfl) ?_;simp only[Act.put,Ls];refine wpList_buildTo rfl 330 _ rfl (some 4) rfl (yN (Y2 3)) (by kernel_rfl) ?_;simp only[Act.put,Ls];refine wpList_buildTo rfl 330 _ rfl (some 5) rfl (yN (Y2 4)) (by kernel_rfl) ?_;simp only[Act.put,Ls];refine wpList_buildTo rfl 330 _ rfl (some 6) rfl (yN (Y2 5)) (by kernel_rfl) ?_;simp only[Act.put,Ls];refine wpList_buildTo rfl 330 _ rfl (some 7) rfl (yN (Y2 6)) (by kernel_rfl) ?_;simp only[Act.put,Ls];refine wpList_buildTo rfl 330 _ rfl (some 8) rfl (yN (Y2 7)) (by kernel_rfl) ?_;simp only[Act.put,Ls];refine wpList_buildTo rfl 339 _ rfl (some 9) rfl zS (by kernel_rfl) ?_;simp only[Act.put,Ls];refine wpList_store_row rfl 339 _ _ rfl w.heap.size zS rfl rfl 339 _ (Wn _ _) (by kernel_rfl) (by kernel_rfl) (by kernel_rfl) ?_;simp only[Act.put,Ls];go_wp2_with fail
 exact Bp (results_cell_row rfl _ _ _ _ _ _ _ rfl (setRow_heap _ _ _ _ _ _ (Wn _ _)) Tryz.underlying339 rfl (by kernel_rfl)) rfl ⟨rfl,((Below.refl w.heap.size w).alloc Nl _).trans ⟨rfl,rfl,rfl,by simp,fun g o=>setRow_other _ _ _ _ (by omega)⟩⟩
theorem qdG (w:World):Calls Tryz.prog 230 #[] w fun e w'=>e= .returned (.agg Kj)∧Below w.heap.size w w':=by
 refine(qdH w).mono ?_;rintro e w' ⟨rfl,o⟩
 exact⟨rfl,o⟩
theorem Zo {w w1:World}(o:Obj)(q:Below (w.alloc o).heap.size (w.alloc o) w1):Below w.heap.size w w1:=
 (Below.alloc Br Nl o).trans (q.mono (by simp))
theorem But.of_below' {b:Nat}{w w':World}(h:Below w.heap.size w w'):But b w w':=⟨h.os,h.tape,h.output,h.size,fun g o _=>h.block g o⟩
theorem qfw (S G:Nat)(ap:G≠S)(L M:List Int)(hL:Words 64 16 L)(V:Words 64 16 M)(r:Nat)(hr:r<12)(Tv Tm:TypeId)(w:World)(hv:w.heap[S]? =some (.cells (qj .u64 L) Tv (0,0)))(hm:w.heap[G]? =some (.cells (qj .u64 M) Tm (0,0))):
  Calls Tryz.prog 215 #[.pointer (some ⟨S,0,none⟩),.pointer (some ⟨G,0,none⟩),.int .i64 r] w fun e w'=>e= .returned (.tuple #[])∧w'.heap[S]? =some (.cells (qj .u64 (mixBig.round L M r)) Tv (0,0))∧But S w w':=by
 have an:S<w.heap.size:=(Ai hv).1;have ar:G<w.heap.size:=(Ai hm).1;have HV:=hid hv;have HM:=hid hm;have HC:=hid (qcL r hr);clear hv hm;go_enter Tryz.func215,Tryz.ntmps215
 go_wp2_with fail
 refine(HC.out _).mono ?_;rintro e1 w1 ⟨rfl,ag⟩;have af:=hid ag;have ak:=ag.size;clear ag HC;go_wp2_with fail
 refine(qfU _).mono ?_;rintro e2 w2 ⟨rfl,ae⟩;obtain⟨U,ah⟩:=Ex w1.heap.size;have hS:w2.heap[U]? =_:=(ae.block U (by simp;omega)).trans (qe w1 _ ah.symm);have hV:w2.heap[S]? =_:=(ae.block S (by simp;omega)).trans ((Bh _ _ _ (by omega)).trans ((af.out.block S an).trans HV.out));have al:w2.heap[G]? =_:=(ae.block G (by simp;omega)).trans ((Bh _ _ _ (by omega)).trans ((af.out.block G ar).trans HM.out));have ai:=hid (af.out.trans ((Zo _ ae).mono ak));have aq:U<w2.heap.size:=by have:=ae.size;simp at this;omega
 have ao:U≠S:=by omega
 rw[ah];clear ae af ah ak HV HM;have HS:=hid hS;have HM:=hid al;have HV:=hid hV;clear hS hV al;have am:G<w2.heap.size:=by have:=ai.out.size;omega
 have au:S<w2.heap.size:=by have:=ai.out.size;omega
 go_wp2_with fail
 go_loopw [12] (fun i wr=> ∃j:Nat,i= .int .i64 j∧j≤8∧wr.heap[S]? =some (.cells (qj .u64 (mixBig.turns L M r j)) Tv (0,0))∧But S w2 wr) (fun i _=>8 - (intOf i).toNat)
 case atStart=>exact⟨0,rfl,Nat.zero_le _,HV.out,But.refl _ _⟩
 case round=>
  obtain⟨j,rfl,hj,hV,hB⟩:=hrel;have av:=hB.size;have q1:U<wr.heap.size:=by omega
  have q2:G<wr.heap.size:=by omega
  have q3:S<wr.heap.size:=by omega
  have aj:=(hB.block U aq ao).trans HS.out;have o:=(hB.block G am ap).trans HM.out;obtain⟨I,fS⟩:=qR aj;have aa:=hid hV;have ab:=hid hB;clear hV aj hB;by_cases aw:j<8
  ·rcases(show j=0∨j=1∨j=2∨j=3∨j=4∨j=5∨j=6∨j=7 by omega)with rfl|rfl|rfl|rfl|rfl|rfl|rfl|rfl
   ·have X:=qW r 0;have Z:=qW r 1;have cx:wr.cell? ⟨G,qu r 0,none⟩=some (.int .u64 (wd M (qu r 0))):=(qq o _).trans (qE V X);have cy:wr.cell? ⟨G,qu r 1,none⟩=some (.int .u64 (wd M (qu r 1))):=(qq o _).trans (qE V Z);have ac:wr.cell? ⟨U,0,none⟩=some (.int .i64 (qu r 0)):=I 0;have ad:wr.cell? ⟨U,1,none⟩=some (.int .i64 (qu r 1)):=I 1;clear o I;go_wp2_with fail
    refine qk (by dsimp only[List.dropLast]) (by rfl) (by rfl) (by kernel_rfl) (by kernel_rfl) (by kernel_rfl) (by kernel_rfl) ?_;repeat(go_big_quiet_step (fail))
    refine wpQuiet_nil ?_;intro _ J;obtain⟨Y,rfl⟩:=J;go_wp2_with fail
    refine(Yb S (mixBig.turns L M r 0) (qJ QL hL r 0) 0 4 8 12 (by decide) (by decide) (by decide) (by decide) (by decide) (by decide) (by decide) (by decide) (by decide) (by decide) _ _ Tv ((wr.alloc _).drewN Y) ((Bh _ _ _ (by omega)).trans aa.out)).mono ?_;rintro e3 w3 ⟨rfl,q,D⟩
    have H3:=hid q;have O:=hid (((ab.out.alloc _).drewN _).trans D);clear q D;go_wp2
    exact⟨⟨1,rfl,by decide,H3.out,O.out⟩,by simp[intOf]⟩
   ·have X:=qW r 2;have Z:=qW r 3;have cx:wr.cell? ⟨G,qu r 2,none⟩=some (.int .u64 (wd M (qu r 2))):=(qq o _).trans (qE V X);have cy:wr.cell? ⟨G,qu r 3,none⟩=some (.int .u64 (wd M (qu r 3))):=(qq o _).trans (qE V Z);have ac:wr.cell? ⟨U,2,none⟩=some (.int .i64 (qu r 2)):=I 2;have ad:wr.cell? ⟨U,3,none⟩=some (.int .i64 (qu r 3)):=I 3;clear o I;go_wp2_with fail
    refine qk (by dsimp only[List.dropLast]) (by rfl) (by rfl) (by kernel_rfl) (by kernel_rfl) (by kernel_rfl) (by kernel_rfl) ?_;repeat(go_big_quiet_step (fail))
    refine wpQuiet_nil ?_;intro _ J;obtain⟨Y,rfl⟩:=J;go_wp2_with fail
    refine(Yb S (mixBig.turns L M r 1) (qJ QL hL r 1) 1 5 9 13 (by decide) (by decide) (by decide) (by decide) (by decide) (by decide) (by decide) (by decide) (by decide) (by decide) _ _ Tv ((wr.alloc _).drewN Y) ((Bh _ _ _ (by omega)).trans aa.out)).mono ?_;rintro e3 w3 ⟨rfl,q,D⟩
    have H3:=hid q;have O:=hid (((ab.out.alloc _).drewN _).trans D);clear q D;go_wp2
    exact⟨⟨2,rfl,by decide,H3.out,O.out⟩,by simp[intOf]⟩
   ·have X:=qW r 4;have Z:=qW r 5;have cx:wr.cell? ⟨G,qu r 4,none⟩=some (.int .u64 (wd M (qu r 4))):=(qq o _).trans (qE V X);have cy:wr.cell? ⟨G,qu r 5,none⟩=some (.int .u64 (wd M (qu r 5))):=(qq o _).trans (qE V Z);have ac:wr.cell? ⟨U,4,none⟩=some (.int .i64 (qu r 4)):=I 4;have ad:wr.cell? ⟨U,5,none⟩=some (.int .i64 (qu r 5)):=I 5;clear o I;go_wp2_with fail
    refine qk (by dsimp only[List.dropLast]) (by rfl) (by rfl) (by kernel_rfl) (by kernel_rfl) (by kernel_rfl) (by kernel_rfl) ?_;repeat(go_big_quiet_step (fail))
    refine wpQuiet_nil ?_;intro _ J;obtain⟨Y,rfl⟩:=J;go_wp2_with fail
    refine(Yb S (mixBig.turns L M r 2) (qJ QL hL r 2) 2 6 10 14 (by decide) (by decide) (by decide) (by decide) (by decide) (by decide) (by decide) (by decide) (by decide) (by decide) _ _ Tv ((wr.alloc _).drewN Y) ((Bh _ _ _ (by omega)).trans aa.out)).mono ?_;rintro e3 w3 ⟨rfl,q,D⟩
    have H3:=hid q;have O:=hid (((ab.out.alloc _).drewN _).trans D);clear q D;go_wp2
    exact⟨⟨3,rfl,by decide,H3.out,O.out⟩,by simp[intOf]⟩
   ·have X:=qW r 6;have Z:=qW r 7;have cx:wr.cell? ⟨G,qu r 6,none⟩=some (.int .u64 (wd M (qu r 6))):=(qq o _).trans (qE V X);have cy:wr.cell? ⟨G,qu r 7,none⟩=some (.int .u64 (wd M (qu r 7))):=(qq o _).trans (qE V Z);have ac:wr.cell? ⟨U,6,none⟩=some (.int .i64 (qu r 6)):=I 6;have ad:wr.cell? ⟨U,7,none⟩=some (.int .i64 (qu r 7)):=I 7;clear o I;go_wp2_with fail
    refine qk (by dsimp only[List.dropLast]) (by rfl) (by rfl) (by kernel_rfl) (by kernel_rfl) (by kernel_rfl) (by kernel_rfl) ?_;repeat(go_big_quiet_step (fail))
    refine wpQuiet_nil ?_;intro _ J;obtain⟨Y,rfl⟩:=J;go_wp2_with fail
    refine(Yb S (mixBig.turns L M r 3) (qJ QL hL r 3) 3 7 11 15 (by decide) (by decide) (by decide) (by decide) (by decide) (by decide) (by decide) (by decide) (by decide) (by decide) _ _ Tv ((wr.alloc _).drewN Y) ((Bh _ _ _ (by omega)).trans aa.out)).mono ?_;rintro e3 w3 ⟨rfl,q,D⟩
    have H3:=hid q;have O:=hid (((ab.out.alloc _).drewN _).trans D);clear q D;go_wp2
    exact⟨⟨4,rfl,by decide,H3.out,O.out⟩,by simp[intOf]⟩
   ·have X:=qW r 8;have Z:=qW r 9;have cx:wr.cell? ⟨G,qu r 8,none⟩=some (.int .u64 (wd M (qu r 8))):=(qq o _).trans (qE V X);have cy:wr.cell? ⟨G,qu r 9,none⟩=some (.int .u64 (wd M (qu r 9))):=(qq o _).trans (qE V Z);have ac:wr.cell? ⟨U,8,none⟩=some (.int .i64 (qu r 8)):=I 8;have ad:wr.cell? ⟨U,9,none⟩=some (.int .i64 (qu r 9)):=I 9;clear o I;go_wp2_with fail
    refine qk (by dsimp only[List.dropLast]) (by rfl) (by rfl) (by kernel_rfl) (by kernel_rfl) (by kernel_rfl) (by kernel_rfl) ?_;repeat(go_big_quiet_step (fail))
    refine wpQuiet_nil ?_;intro _ J;obtain⟨Y,rfl⟩:=J;go_wp2_with fail
    refine(Yb S (mixBig.turns L M r 4) (qJ QL hL r 4) 0 5 10 15 (by decide) (by decide) (by decide) (by decide) (by decide) (by decide) (by decide) (by decide) (by decide) (by decide) _ _ Tv ((wr.alloc _).drewN Y) ((Bh _ _ _ (by omega)).trans aa.out)).mono ?_;rintro e3 w3 ⟨rfl,q,D⟩
    have H3:=hid q;have O:=hid (((ab.out.alloc _).drewN _).trans D);clear q D;go_wp2
    exact⟨⟨5,rfl,by decide,H3.out,O.out⟩,by simp[intOf]⟩
   ·have X:=qW r 10;have Z:=qW r 11;have cx:wr.cell? ⟨G,qu r 10,none⟩=some (.int .u64 (wd M (qu r 10))):=(qq o _).trans (qE V X);have cy:wr.cell? ⟨G,qu r 11,none⟩=some (.int .u64 (wd M (qu r 11))):=(qq o _).trans (qE V Z);have ac:wr.cell? ⟨U,10,none⟩=some (.int .i64 (qu r 10)):=I 10;have ad:wr.cell? ⟨U,11,none⟩=some (.int .i64 (qu r 11)):=I 11;clear o I;go_wp2_with fail
    refine qk (by dsimp only[List.dropLast]) (by rfl) (by rfl) (by kernel_rfl) (by kernel_rfl) (by kernel_rfl) (by kernel_rfl) ?_;repeat(go_big_quiet_step (fail))
    refine wpQuiet_nil ?_;intro _ J;obtain⟨Y,rfl⟩:=J;go_wp2_with fail
    refine(Yb S (mixBig.turns L M r 5) (qJ QL hL r 5) 1 6 11 12 (by decide) (by decide) (by decide) (by decide) (by decide) (by decide) (by decide) (by decide) (by decide) (by decide) _ _ Tv ((wr.alloc _).drewN Y) ((Bh _ _ _ (by omega)).trans aa.out)).mono ?_;rintro e3 w3 ⟨rfl,q,D⟩
    have H3:=hid q;have O:=hid (((ab.out.alloc _).drewN _).trans D);clear q D;go_wp2
    exact⟨⟨6,rfl,by decide,H3.out,O.out⟩,by simp[intOf]⟩
   ·have X:=qW r 12;have Z:=qW r 13;have cx:wr.cell? ⟨G,qu r 12,none⟩=some (.int .u64 (wd M (qu r 12))):=(qq o _).trans (qE V X);have cy:wr.cell? ⟨G,qu r 13,none⟩=some (.int .u64 (wd M (qu r 13))):=(qq o _).trans (qE V Z);have ac:wr.cell? ⟨U,12,none⟩=some (.int .i64 (qu r 12)):=I 12;have ad:wr.cell? ⟨U,13,none⟩=some (.int .i64 (qu r 13)):=I 13;clear o I;go_wp2_with fail
    refine qk (by dsimp only[List.dropLast]) (by rfl) (by rfl) (by kernel_rfl) (by kernel_rfl) (by kernel_rfl) (by kernel_rfl) ?_;repeat(go_big_quiet_step (fail))
    refine wpQuiet_nil ?_;intro _ J;obtain⟨Y,rfl⟩:=J;go_wp2_with fail
    refine(Yb S (mixBig.turns L M r 6) (qJ QL hL r 6) 2 7 8 13 (by decide) (by decide) (by decide) (by decide) (by decide) (by decide) (by decide) (by decide) (by decide) (by decide) _ _ Tv ((wr.alloc _).drewN Y) ((Bh _ _ _ (by omega)).trans aa.out)).mono ?_;rintro e3 w3 ⟨rfl,q,D⟩
    have H3:=hid q;have O:=hid (((ab.out.alloc _).drewN _).trans D);clear q D;go_wp2
    exact⟨⟨7,rfl,by decide,H3.out,O.out⟩,by simp[intOf]⟩
   ·have X:=qW r 14;have Z:=qW r 15;have cx:wr.cell? ⟨G,qu r 14,none⟩=some (.int .u64 (wd M (qu r 14))):=(qq o _).trans (qE V X);have cy:wr.cell? ⟨G,qu r 15,none⟩=some (.int .u64 (wd M (qu r 15))):=(qq o _).trans (qE V Z);have ac:wr.cell? ⟨U,14,none⟩=some (.int .i64 (qu r 14)):=I 14;have ad:wr.cell? ⟨U,15,none⟩=some (.int .i64 (qu r 15)):=I 15;clear o I;go_wp2_with fail
    refine qk (by dsimp only[List.dropLast]) (by rfl) (by rfl) (by kernel_rfl) (by kernel_rfl) (by kernel_rfl) (by kernel_rfl) ?_;repeat(go_big_quiet_step (fail))
    refine wpQuiet_nil ?_;intro _ J;obtain⟨Y,rfl⟩:=J;go_wp2_with fail
    refine(Yb S (mixBig.turns L M r 7) (qJ QL hL r 7) 3 4 9 14 (by decide) (by decide) (by decide) (by decide) (by decide) (by decide) (by decide) (by decide) (by decide) (by decide) _ _ Tv ((wr.alloc _).drewN Y) ((Bh _ _ _ (by omega)).trans aa.out)).mono ?_;rintro e3 w3 ⟨rfl,q,D⟩
    have H3:=hid q;have O:=hid (((ab.out.alloc _).drewN _).trans D);clear q D;go_wp2
    exact⟨⟨8,rfl,by decide,H3.out,O.out⟩,by simp[intOf]⟩
  ·obtain rfl:j=8:=by omega
   go_wp2
   exact bodyPost_end (results_none rfl _ _ _) rfl ⟨rfl,aa.out,(But.of_below' ai.out).trans ab.out⟩
theorem qfx (S G:Nat)(ap:G≠S)(L M:List Int)(hL:Words 32 16 L)(V:Words 32 16 M)(r:Nat)(hr:r<12)(Tv Tm:TypeId)(w:World)(hv:w.heap[S]? =some (.cells (qj .u32 L) Tv (0,0)))(hm:w.heap[G]? =some (.cells (qj .u32 M) Tm (0,0))):
  Calls Tryz.prog 218 #[.pointer (some ⟨S,0,none⟩),.pointer (some ⟨G,0,none⟩),.int .i64 r] w fun e w'=>e= .returned (.tuple #[])∧w'.heap[S]? =some (.cells (qj .u32 (mixSmall.round L M r)) Tv (0,0))∧But S w w':=by
 have an:S<w.heap.size:=(Ai hv).1;have ar:G<w.heap.size:=(Ai hm).1;have HV:=hid hv;have HM:=hid hm;have HC:=hid (qcL r hr);clear hv hm;go_enter Tryz.func218,Tryz.ntmps218
 go_wp2_with fail
 refine(HC.out _).mono ?_;rintro e1 w1 ⟨rfl,ag⟩;have af:=hid ag;have ak:=ag.size;clear ag HC;go_wp2_with fail
 refine(qdG _).mono ?_;rintro e2 w2 ⟨rfl,ae⟩;obtain⟨U,ah⟩:=Ex w1.heap.size;have hS:w2.heap[U]? =_:=(ae.block U (by simp;omega)).trans (qe w1 _ ah.symm);have hV:w2.heap[S]? =_:=(ae.block S (by simp;omega)).trans ((Bh _ _ _ (by omega)).trans ((af.out.block S an).trans HV.out));have al:w2.heap[G]? =_:=(ae.block G (by simp;omega)).trans ((Bh _ _ _ (by omega)).trans ((af.out.block G ar).trans HM.out));have ai:=hid (af.out.trans ((Zo _ ae).mono ak));have aq:U<w2.heap.size:=by have:=ae.size;simp at this;omega
 have ao:U≠S:=by omega
 rw[ah];clear ae af ah ak HV HM;have HS:=hid hS;have HM:=hid al;have HV:=hid hV;clear hS hV al;have am:G<w2.heap.size:=by have:=ai.out.size;omega
 have au:S<w2.heap.size:=by have:=ai.out.size;omega
 go_wp2_with fail
 go_loopw [12] (fun i wr=> ∃j:Nat,i= .int .i64 j∧j≤8∧wr.heap[S]? =some (.cells (qj .u32 (mixSmall.turns L M r j)) Tv (0,0))∧But S w2 wr) (fun i _=>8 - (intOf i).toNat)
 case atStart=>exact⟨0,rfl,Nat.zero_le _,HV.out,But.refl _ _⟩
 case round=>
  obtain⟨j,rfl,hj,hV,hB⟩:=hrel;have av:=hB.size;have q1:U<wr.heap.size:=by omega
  have q2:G<wr.heap.size:=by omega
  have q3:S<wr.heap.size:=by omega
  have aj:=(hB.block U aq ao).trans HS.out;have o:=(hB.block G am ap).trans HM.out;obtain⟨I,fS⟩:=qR aj;have aa:=hid hV;have ab:=hid hB;clear hV aj hB;by_cases aw:j<8
  ·rcases(show j=0∨j=1∨j=2∨j=3∨j=4∨j=5∨j=6∨j=7 by omega)with rfl|rfl|rfl|rfl|rfl|rfl|rfl|rfl
   ·have X:=qW r 0;have Z:=qW r 1;have cx:wr.cell? ⟨G,qu r 0,none⟩=some (.int .u32 (wd M (qu r 0))):=(qq o _).trans (qE V X);have cy:wr.cell? ⟨G,qu r 1,none⟩=some (.int .u32 (wd M (qu r 1))):=(qq o _).trans (qE V Z);have ac:wr.cell? ⟨U,0,none⟩=some (.int .i64 (qu r 0)):=I 0;have ad:wr.cell? ⟨U,1,none⟩=some (.int .i64 (qu r 1)):=I 1;clear o I;go_wp2_with fail
    refine qk (by dsimp only[List.dropLast]) (by rfl) (by rfl) (by kernel_rfl) (by kernel_rfl) (by kernel_rfl) (by kernel_rfl) ?_;repeat(go_big_quiet_step (fail))
    refine wpQuiet_nil ?_;intro _ J;obtain⟨Y,rfl⟩:=J;go_wp2_with fail
    refine(Yc S (mixSmall.turns L M r 0) (qJ Qr hL r 0) 0 4 8 12 (by decide) (by decide) (by decide) (by decide) (by decide) (by decide) (by decide) (by decide) (by decide) (by decide) _ _ Tv ((wr.alloc _).drewN Y) ((Bh _ _ _ (by omega)).trans aa.out)).mono ?_;rintro e3 w3 ⟨rfl,q,D⟩
    have H3:=hid q;have O:=hid (((ab.out.alloc _).drewN _).trans D);clear q D;go_wp2
    exact⟨⟨1,rfl,by decide,H3.out,O.out⟩,by simp[intOf]⟩
   ·have X:=qW r 2;have Z:=qW r 3;have cx:wr.cell? ⟨G,qu r 2,none⟩=some (.int .u32 (wd M (qu r 2))):=(qq o _).trans (qE V X);have cy:wr.cell? ⟨G,qu r 3,none⟩=some (.int .u32 (wd M (qu r 3))):=(qq o _).trans (qE V Z);have ac:wr.cell? ⟨U,2,none⟩=some (.int .i64 (qu r 2)):=I 2;have ad:wr.cell? ⟨U,3,none⟩=some (.int .i64 (qu r 3)):=I 3;clear o I;go_wp2_with fail
    refine qk (by dsimp only[List.dropLast]) (by rfl) (by rfl) (by kernel_rfl) (by kernel_rfl) (by kernel_rfl) (by kernel_rfl) ?_;repeat(go_big_quiet_step (fail))
    refine wpQuiet_nil ?_;intro _ J;obtain⟨Y,rfl⟩:=J;go_wp2_with fail
    refine(Yc S (mixSmall.turns L M r 1) (qJ Qr hL r 1) 1 5 9 13 (by decide) (by decide) (by decide) (by decide) (by decide) (by decide) (by decide) (by decide) (by decide) (by decide) _ _ Tv ((wr.alloc _).drewN Y) ((Bh _ _ _ (by omega)).trans aa.out)).mono ?_;rintro e3 w3 ⟨rfl,q,D⟩
    have H3:=hid q;have O:=hid (((ab.out.alloc _).drewN _).trans D);clear q D;go_wp2
    exact⟨⟨2,rfl,by decide,H3.out,O.out⟩,by simp[intOf]⟩
   ·have X:=qW r 4;have Z:=qW r 5;have cx:wr.cell? ⟨G,qu r 4,none⟩=some (.int .u32 (wd M (qu r 4))):=(qq o _).trans (qE V X);have cy:wr.cell? ⟨G,qu r 5,none⟩=some (.int .u32 (wd M (qu r 5))):=(qq o _).trans (qE V Z);have ac:wr.cell? ⟨U,4,none⟩=some (.int .i64 (qu r 4)):=I 4;have ad:wr.cell? ⟨U,5,none⟩=some (.int .i64 (qu r 5)):=I 5;clear o I;go_wp2_with fail
    refine qk (by dsimp only[List.dropLast]) (by rfl) (by rfl) (by kernel_rfl) (by kernel_rfl) (by kernel_rfl) (by kernel_rfl) ?_;repeat(go_big_quiet_step (fail))
    refine wpQuiet_nil ?_;intro _ J;obtain⟨Y,rfl⟩:=J;go_wp2_with fail
    refine(Yc S (mixSmall.turns L M r 2) (qJ Qr hL r 2) 2 6 10 14 (by decide) (by decide) (by decide) (by decide) (by decide) (by decide) (by decide) (by decide) (by decide) (by decide) _ _ Tv ((wr.alloc _).drewN Y) ((Bh _ _ _ (by omega)).trans aa.out)).mono ?_;rintro e3 w3 ⟨rfl,q,D⟩
    have H3:=hid q;have O:=hid (((ab.out.alloc _).drewN _).trans D);clear q D;go_wp2
    exact⟨⟨3,rfl,by decide,H3.out,O.out⟩,by simp[intOf]⟩
   ·have X:=qW r 6;have Z:=qW r 7;have cx:wr.cell? ⟨G,qu r 6,none⟩=some (.int .u32 (wd M (qu r 6))):=(qq o _).trans (qE V X);have cy:wr.cell? ⟨G,qu r 7,none⟩=some (.int .u32 (wd M (qu r 7))):=(qq o _).trans (qE V Z);have ac:wr.cell? ⟨U,6,none⟩=some (.int .i64 (qu r 6)):=I 6;have ad:wr.cell? ⟨U,7,none⟩=some (.int .i64 (qu r 7)):=I 7;clear o I;go_wp2_with fail
    refine qk (by dsimp only[List.dropLast]) (by rfl) (by rfl) (by kernel_rfl) (by kernel_rfl) (by kernel_rfl) (by kernel_rfl) ?_;repeat(go_big_quiet_step (fail))
    refine wpQuiet_nil ?_;intro _ J;obtain⟨Y,rfl⟩:=J;go_wp2_with fail
    refine(Yc S (mixSmall.turns L M r 3) (qJ Qr hL r 3) 3 7 11 15 (by decide) (by decide) (by decide) (by decide) (by decide) (by decide) (by decide) (by decide) (by decide) (by decide) _ _ Tv ((wr.alloc _).drewN Y) ((Bh _ _ _ (by omega)).trans aa.out)).mono ?_;rintro e3 w3 ⟨rfl,q,D⟩
    have H3:=hid q;have O:=hid (((ab.out.alloc _).drewN _).trans D);clear q D;go_wp2
    exact⟨⟨4,rfl,by decide,H3.out,O.out⟩,by simp[intOf]⟩
   ·have X:=qW r 8;have Z:=qW r 9;have cx:wr.cell? ⟨G,qu r 8,none⟩=some (.int .u32 (wd M (qu r 8))):=(qq o _).trans (qE V X);have cy:wr.cell? ⟨G,qu r 9,none⟩=some (.int .u32 (wd M (qu r 9))):=(qq o _).trans (qE V Z);have ac:wr.cell? ⟨U,8,none⟩=some (.int .i64 (qu r 8)):=I 8;have ad:wr.cell? ⟨U,9,none⟩=some (.int .i64 (qu r 9)):=I 9;clear o I;go_wp2_with fail
    refine qk (by dsimp only[List.dropLast]) (by rfl) (by rfl) (by kernel_rfl) (by kernel_rfl) (by kernel_rfl) (by kernel_rfl) ?_;repeat(go_big_quiet_step (fail))
    refine wpQuiet_nil ?_;intro _ J;obtain⟨Y,rfl⟩:=J;go_wp2_with fail
    refine(Yc S (mixSmall.turns L M r 4) (qJ Qr hL r 4) 0 5 10 15 (by decide) (by decide) (by decide) (by decide) (by decide) (by decide) (by decide) (by decide) (by decide) (by decide) _ _ Tv ((wr.alloc _).drewN Y) ((Bh _ _ _ (by omega)).trans aa.out)).mono ?_;rintro e3 w3 ⟨rfl,q,D⟩
    have H3:=hid q;have O:=hid (((ab.out.alloc _).drewN _).trans D);clear q D;go_wp2
    exact⟨⟨5,rfl,by decide,H3.out,O.out⟩,by simp[intOf]⟩
   ·have X:=qW r 10;have Z:=qW r 11;have cx:wr.cell? ⟨G,qu r 10,none⟩=some (.int .u32 (wd M (qu r 10))):=(qq o _).trans (qE V X);have cy:wr.cell? ⟨G,qu r 11,none⟩=some (.int .u32 (wd M (qu r 11))):=(qq o _).trans (qE V Z);have ac:wr.cell? ⟨U,10,none⟩=some (.int .i64 (qu r 10)):=I 10;have ad:wr.cell? ⟨U,11,none⟩=some (.int .i64 (qu r 11)):=I 11;clear o I;go_wp2_with fail
    refine qk (by dsimp only[List.dropLast]) (by rfl) (by rfl) (by kernel_rfl) (by kernel_rfl) (by kernel_rfl) (by kernel_rfl) ?_;repeat(go_big_quiet_step (fail))
    refine wpQuiet_nil ?_;intro _ J;obtain⟨Y,rfl⟩:=J;go_wp2_with fail
    refine(Yc S (mixSmall.turns L M r 5) (qJ Qr hL r 5) 1 6 11 12 (by decide) (by decide) (by decide) (by decide) (by decide) (by decide) (by decide) (by decide) (by decide) (by decide) _ _ Tv ((wr.alloc _).drewN Y) ((Bh _ _ _ (by omega)).trans aa.out)).mono ?_;rintro e3 w3 ⟨rfl,q,D⟩
    have H3:=hid q;have O:=hid (((ab.out.alloc _).drewN _).trans D);clear q D;go_wp2
    exact⟨⟨6,rfl,by decide,H3.out,O.out⟩,by simp[intOf]⟩
   ·have X:=qW r 12;have Z:=qW r 13;have cx:wr.cell? ⟨G,qu r 12,none⟩=some (.int .u32 (wd M (qu r 12))):=(qq o _).trans (qE V X);have cy:wr.cell? ⟨G,qu r 13,none⟩=some (.int .u32 (wd M (qu r 13))):=(qq o _).trans (qE V Z);have ac:wr.cell? ⟨U,12,none⟩=some (.int .i64 (qu r 12)):=I 12;have ad:wr.cell? ⟨U,13,none⟩=some (.int .i64 (qu r 13)):=I 13;clear o I;go_wp2_with fail
    refine qk (by dsimp only[List.dropLast]) (by rfl) (by rfl) (by kernel_rfl) (by kernel_rfl) (by kernel_rfl) (by kernel_rfl) ?_;repeat(go_big_quiet_step (fail))
    refine wpQuiet_nil ?_;intro _ J;obtain⟨Y,rfl⟩:=J;go_wp2_with fail
    refine(Yc S (mixSmall.turns L M r 6) (qJ Qr hL r 6) 2 7 8 13 (by decide) (by decide) (by decide) (by decide) (by decide) (by decide) (by decide) (by decide) (by decide) (by decide) _ _ Tv ((wr.alloc _).drewN Y) ((Bh _ _ _ (by omega)).trans aa.out)).mono ?_;rintro e3 w3 ⟨rfl,q,D⟩
    have H3:=hid q;have O:=hid (((ab.out.alloc _).drewN _).trans D);clear q D;go_wp2
    exact⟨⟨7,rfl,by decide,H3.out,O.out⟩,by simp[intOf]⟩
   ·have X:=qW r 14;have Z:=qW r 15;have cx:wr.cell? ⟨G,qu r 14,none⟩=some (.int .u32 (wd M (qu r 14))):=(qq o _).trans (qE V X);have cy:wr.cell? ⟨G,qu r 15,none⟩=some (.int .u32 (wd M (qu r 15))):=(qq o _).trans (qE V Z);have ac:wr.cell? ⟨U,14,none⟩=some (.int .i64 (qu r 14)):=I 14;have ad:wr.cell? ⟨U,15,none⟩=some (.int .i64 (qu r 15)):=I 15;clear o I;go_wp2_with fail
    refine qk (by dsimp only[List.dropLast]) (by rfl) (by rfl) (by kernel_rfl) (by kernel_rfl) (by kernel_rfl) (by kernel_rfl) ?_;repeat(go_big_quiet_step (fail))
    refine wpQuiet_nil ?_;intro _ J;obtain⟨Y,rfl⟩:=J;go_wp2_with fail
    refine(Yc S (mixSmall.turns L M r 7) (qJ Qr hL r 7) 3 4 9 14 (by decide) (by decide) (by decide) (by decide) (by decide) (by decide) (by decide) (by decide) (by decide) (by decide) _ _ Tv ((wr.alloc _).drewN Y) ((Bh _ _ _ (by omega)).trans aa.out)).mono ?_;rintro e3 w3 ⟨rfl,q,D⟩
    have H3:=hid q;have O:=hid (((ab.out.alloc _).drewN _).trans D);clear q D;go_wp2
    exact⟨⟨8,rfl,by decide,H3.out,O.out⟩,by simp[intOf]⟩
  ·obtain rfl:j=8:=by omega
   go_wp2
   exact bodyPost_end (results_none rfl _ _ _) rfl ⟨rfl,aa.out,(But.of_below' ai.out).trans ab.out⟩
end Go.Proofs.YthjoojnlnlmljaaGreat
