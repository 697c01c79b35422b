/- A round of the mixing, by the program, both kinds. No condition. -/
import Derived.Test.YthjoojnlnlmljaaGreatP10
set_option linter.all false
set_option maxRecDepth 100000
set_option maxHeartbeats 8000000
namespace Go.Proofs.YthjoojnlnlmljaaGreat
open Go.ChangeShapes Go.WideShapes Go.ChangeAt Go.RowKit Go.Joins
open Go.Lib (hid)
attribute [local go_sem] Oper.semAt_some
theorem YT {P:Program}{w:World}(t:TypeId)(cs:Array Value)(k:IntKind)(i:Int)(h:P.underlying t=some (.array (P.arrayLen t) (P.elem t))):
  (Instr.index t (.agg cs) (.int k i)).run P w=if 0≤i∧i<P.arrayLen t then((sizeOf (P.elem t)).run P w).andThen fun s w=>(part (P.elem t) cs (i.toNat*s)).run P w else(boundsPanic k i (P.arrayLen t) .index).run P w:=by
 simp only[Instr.index,Sem.run_bind,run_underlying h,asIntOf,Sem.run_pure,Result.andThen_ok];split<;>simp
attribute [local go_sem] YT
structure MixOk (K:MixK):Prop where
 wrap: ∀z,K.k.wrap z=z%2^K.n
 r2:K.r2≤K.n
 r1:K.r1≤K.n
 r3:K.r3≤K.n
 r4:K.r4≤K.n
theorem QK:MixOk mixBig:=⟨fun z=>IntKind.wrap_u64 z,by decide,by decide,by decide,by decide⟩
theorem Qn:MixOk mixSmall:=⟨fun z=>IntKind.wrap_u32 z,by decide,by decide,by decide,by decide⟩
theorem qeM {K:MixK}(o:MixOk K){L:List Int}(q:Words K.n 16 L)(a b c d:Nat)(x y:Int):Words K.n 16 (K.step L a b c d x y):=by
 unfold MixK.step;refine Words.set (Words.set (Words.set (Words.set q ?_) ?_) ?_) ?_
 ·exact Jr _ _
 ·exact Z5 o.r3 (Qa _ _ _ o.wrap _ _)
 ·exact Jr _ _
 ·exact Z5 o.r4 (Qa _ _ _ o.wrap _ _)
theorem qG {K:MixK}(o:MixOk K){L M:List Int}(q:Words K.n 16 L)(r:Nat): ∀i,Words K.n 16 (K.turns L M r i)
 | 0=>q
 | i+1=>qeM o (qG o q r i) _ _ _ _ _ _
theorem Q3 {K:MixK}(o:MixOk K){L M:List Int}(q:Words K.n 16 L): ∀i,Words K.n 16 (K.rounds L M i)
 | 0=>q
 | i+1=>qG o (Q3 o q i) _ _
theorem qcl (r:Nat)(o:r<12)(w:World):Calls Tryz.prog 227 #[.int .i64 r] w fun e w'=>e= .returned (.agg #[.int .i64 (qv r 0:Nat),.int .i64 (qv r 1:Nat),.int .i64 (qv r 2:Nat),.int .i64 (qv r 3:Nat),.int .i64 (qv r 4:Nat),.int .i64 (qv r 5:Nat),.int .i64 (qv r 6:Nat),.int .i64 (qv r 7:Nat),.int .i64 (qv r 8:Nat),.int .i64 (qv r 9:Nat),.int .i64 (qv r 10:Nat),.int .i64 (qv r 11:Nat),.int .i64 (qv r 12:Nat),.int .i64 (qv r 13:Nat),.int .i64 (qv r 14:Nat),.int .i64 (qv r 15:Nat)])∧Below w.heap.size w w':=by
 have q: ∀r<12,[qv r 0,qv r 1,qv r 2,qv r 3,qv r 4,qv r 5,qv r 6,qv r 7,qv r 8,qv r 9,qv r 10,qv r 11,qv r 12,qv r 13,qv r 14,qv r 15]=J3 r:=by decide+kernel
 refine(qgd r o w).mono ?_;rintro e w' ⟨rfl,D⟩
 exact⟨by rw[←q r o];rfl,D⟩
theorem qe9 (w:World):Calls Tryz.prog 228 #[] w fun e w'=>e= .returned (.agg #[.int .i64 0,.int .i64 4,.int .i64 8,.int .i64 12,.int .i64 1,.int .i64 5,.int .i64 9,.int .i64 13,.int .i64 2,.int .i64 6,.int .i64 10,.int .i64 14,.int .i64 3,.int .i64 7,.int .i64 11,.int .i64 15,.int .i64 0,.int .i64 5,.int .i64 10,.int .i64 15,.int .i64 1,.int .i64 6,.int .i64 11,.int .i64 12,.int .i64 2,.int .i64 7,.int .i64 8,.int .i64 13,.int .i64 3,.int .i64 4,.int .i64 9,.int .i64 14])∧Below w.heap.size w w':=by
 refine(qfa w).mono ?_;rintro e w' ⟨rfl,o⟩
 exact⟨rfl,o⟩
theorem qc8 (w:World):Calls Tryz.prog 230 #[] w fun e w'=>e= .returned (.agg zz)∧Below w.heap.size w w':=by
 go_enter Tryz.func230,Tryz.ntmps230
 go_upto_region 1 with(fail)
 apply wp_region_lit
 refine wpList_buildTo rfl 330 _ rfl (some 1) rfl (yG (YL 0)) (by kernel_rfl) ?_;simp only[Act.put,Ls];refine wpList_buildTo rfl 330 _ rfl (some 2) rfl (yG (YL 1)) (by kernel_rfl) ?_;simp only[Act.put,Ls];refine wpList_buildTo rfl 330 _ rfl (some 3) rfl (yG (YL 2)) (by kernel_rfl) ?_;simp only[Act.put,Ls];refine wpList_buildTo rfl 330 _ rfl (some 4) rfl (yG (YL 3)) (by kernel_rfl) ?_;simp only[Act.put,Ls];refine wpList_buildTo rfl 330 _ rfl (some 5) rfl (yG (YL 4)) (by kernel_rfl) ?_;simp only[Act.put,Ls];refine wpList_buildTo rfl 330 _ rfl (some 6) rfl (yG (YL 5)) (by kernel_rfl) ?_;simp only[Act.put,Ls];refine wpList_buildTo rfl 330 _ rfl (some 7) rfl (yG (YL 6)) (by kernel_rfl) ?_;simp only[Act.put,Ls];refine wpList_buildTo rfl 330 _ rfl (some 8) rfl (yG (YL 7)) (by kernel_rfl) ?_;simp only[Act.put,Ls];refine wpList_buildTo rfl 339 _ rfl (some 9) rfl zz (by kernel_rfl) ?_;simp only[Act.put,Ls];refine wpList_store_row rfl 339 _ _ rfl w.heap.size zz rfl rfl 339 _ (Wn _ _) (by kernel_rfl) (by kernel_rfl) (by kernel_rfl) ?_;simp only[Act.put,Ls];go_wp2_with fail
 exact Bp (results_cell_row rfl _ _ _ _ _ _ _ rfl (setRow_heap _ _ _ _ _ _ (Wn _ _)) Tryz.underlying339 rfl (by kernel_rfl)) rfl ⟨rfl,((Below.refl w.heap.size w).alloc Nl _).trans ⟨rfl,rfl,rfl,by simp,fun g o=>setRow_other _ _ _ _ (by omega)⟩⟩
theorem qc7 (w:World):Calls Tryz.prog 230 #[] w fun e w'=>e= .returned (.agg #[.int .i64 0,.int .i64 4,.int .i64 8,.int .i64 12,.int .i64 1,.int .i64 5,.int .i64 9,.int .i64 13,.int .i64 2,.int .i64 6,.int .i64 10,.int .i64 14,.int .i64 3,.int .i64 7,.int .i64 11,.int .i64 15,.int .i64 0,.int .i64 5,.int .i64 10,.int .i64 15,.int .i64 1,.int .i64 6,.int .i64 11,.int .i64 12,.int .i64 2,.int .i64 7,.int .i64 8,.int .i64 13,.int .i64 3,.int .i64 4,.int .i64 9,.int .i64 14])∧Below w.heap.size w w':=by
 refine(qc8 w).mono ?_;rintro e w' ⟨rfl,o⟩
 exact⟨rfl,o⟩
theorem zY {w w1:World}(o:Obj)(q:Below (w.alloc o).heap.size (w.alloc o) w1):Below w.heap.size w w1:=
 (Below.alloc Br Nl o).trans (q.mono (by simp))
theorem But.of_below' {b:Nat}{w w':World}(h:Below w.heap.size w w'):But b w w':=⟨h.os,h.tape,h.output,h.size,fun g o _=>h.block g o⟩
theorem qeH (V G:Nat)(aq:G≠V)(L M:List Int)(hL:Words 64 16 L)(X:Words 64 16 M)(r:Nat)(hr:r<12)(Tv Tm:TypeId)(w:World)(hv:w.heap[V]? =some (.cells (qj .u64 L) Tv (0,0)))(hm:w.heap[G]? =some (.cells (qj .u64 M) Tm (0,0))):
  Calls Tryz.prog 215 #[.pointer (some ⟨V,0,none⟩),.pointer (some ⟨G,0,none⟩),.int .i64 r] w fun e w'=>e= .returned (.tuple #[])∧w'.heap[V]? =some (.cells (qj .u64 (mixBig.round L M r)) Tv (0,0))∧But V w w':=by
 have ar:V<w.heap.size:=(Ai hv).1;have an:G<w.heap.size:=(Ai hm).1;have HV:=hid hv;have HM:=hid hm;have HC:=hid (qcl r hr);clear hv hm;go_enter Tryz.func215,Tryz.ntmps215
 go_wp2_with fail
 refine(HC.out _).mono ?_;rintro e1 w1 ⟨rfl,ah⟩;have af:=hid ah;have aj:=ah.size;clear ah HC;go_wp2_with fail
 refine(qe9 _).mono ?_;rintro e2 w2 ⟨rfl,ae⟩;obtain⟨U,ai⟩:=Ex w1.heap.size;have hS:w2.heap[U]? =_:=(ae.block U (by simp;omega)).trans (qe w1 _ ai.symm);have hV:w2.heap[V]? =_:=(ae.block V (by simp;omega)).trans ((Bh _ _ _ (by omega)).trans ((af.out.block V ar).trans HV.out));have ak:w2.heap[G]? =_:=(ae.block G (by simp;omega)).trans ((Bh _ _ _ (by omega)).trans ((af.out.block G an).trans HM.out));have ag:=hid (af.out.trans ((zY _ ae).mono aj));have ap:U<w2.heap.size:=by have:=ae.size;simp at this;omega
 have ao:U≠V:=by omega
 rw[ai];clear ae af ai aj HV HM;have HS:=hid hS;have HM:=hid ak;have HV:=hid hV;clear hS hV ak;have am:G<w2.heap.size:=by have:=ag.out.size;omega
 have au:V<w2.heap.size:=by have:=ag.out.size;omega
 go_wp2_with fail
 go_loopw [12] (fun i wr=> ∃j:Nat,i= .int .i64 j∧j≤8∧wr.heap[V]? =some (.cells (qj .u64 (mixBig.turns L M r j)) Tv (0,0))∧But V w2 wr) (fun i _=>8 - (intOf i).toNat)
 case atStart=>exact⟨0,rfl,Nat.zero_le _,HV.out,But.refl _ _⟩
 case round=>
  obtain⟨j,rfl,hj,hV,hB⟩:=hrel;have av:=hB.size;have q1:U<wr.heap.size:=by omega
  have q2:G<wr.heap.size:=by omega
  have q3:V<wr.heap.size:=by omega
  have al:=(hB.block U ap ao).trans HS.out;have o:=(hB.block G am aq).trans HM.out;obtain⟨I,fS⟩:=qO al;have ab:=hid hV;have aa:=hid hB;clear hV al hB;by_cases aw:j<8
  ·rcases(show j=0∨j=1∨j=2∨j=3∨j=4∨j=5∨j=6∨j=7 by omega)with rfl|rfl|rfl|rfl|rfl|rfl|rfl|rfl
   ·have sx:=qU r 0;have Z:=qU r 1;have cx:wr.cell? ⟨G,qv r 0,none⟩=some (.int .u64 (wd M (qv r 0))):=(qq o _).trans (qC X sx);have cy:wr.cell? ⟨G,qv r 1,none⟩=some (.int .u64 (wd M (qv r 1))):=(qq o _).trans (qC X Z);have ac:wr.cell? ⟨U,0,none⟩=some (.int .i64 (qv r 0:Nat)):=I 0;have ad:wr.cell? ⟨U,1,none⟩=some (.int .i64 (qv r 1:Nat)):=I 1;clear o I;go_wp2_with fail
    refine qk (by dsimp only[List.dropLast]) (by rfl) (by rfl) (by kernel_rfl) (by kernel_rfl) (by kernel_rfl) (by kernel_rfl) ?_;repeat(go_big_quiet_step (fail))
    refine wpQuiet_nil ?_;intro _ J;obtain⟨Y,rfl⟩:=J;go_wp2_with fail
    refine(yT V (mixBig.turns L M r 0) (qG QK hL r 0) 0 4 8 12 (by decide) (by decide) (by decide) (by decide) (by decide) (by decide) (by decide) (by decide) (by decide) (by decide) _ _ Tv ((wr.alloc _).drewN Y) ((Bh _ _ _ (by omega)).trans ab.out)).mono ?_;rintro e3 w3 ⟨rfl,q,D⟩
    have H3:=hid q;have O:=hid (((aa.out.alloc _).drewN _).trans D);clear q D;go_wp2
    exact⟨⟨1,rfl,by decide,H3.out,O.out⟩,by simp[intOf]⟩
   ·have sx:=qU r 2;have Z:=qU r 3;have cx:wr.cell? ⟨G,qv r 2,none⟩=some (.int .u64 (wd M (qv r 2))):=(qq o _).trans (qC X sx);have cy:wr.cell? ⟨G,qv r 3,none⟩=some (.int .u64 (wd M (qv r 3))):=(qq o _).trans (qC X Z);have ac:wr.cell? ⟨U,2,none⟩=some (.int .i64 (qv r 2:Nat)):=I 2;have ad:wr.cell? ⟨U,3,none⟩=some (.int .i64 (qv r 3:Nat)):=I 3;clear o I;go_wp2_with fail
    refine qk (by dsimp only[List.dropLast]) (by rfl) (by rfl) (by kernel_rfl) (by kernel_rfl) (by kernel_rfl) (by kernel_rfl) ?_;repeat(go_big_quiet_step (fail))
    refine wpQuiet_nil ?_;intro _ J;obtain⟨Y,rfl⟩:=J;go_wp2_with fail
    refine(yT V (mixBig.turns L M r 1) (qG QK hL r 1) 1 5 9 13 (by decide) (by decide) (by decide) (by decide) (by decide) (by decide) (by decide) (by decide) (by decide) (by decide) _ _ Tv ((wr.alloc _).drewN Y) ((Bh _ _ _ (by omega)).trans ab.out)).mono ?_;rintro e3 w3 ⟨rfl,q,D⟩
    have H3:=hid q;have O:=hid (((aa.out.alloc _).drewN _).trans D);clear q D;go_wp2
    exact⟨⟨2,rfl,by decide,H3.out,O.out⟩,by simp[intOf]⟩
   ·have sx:=qU r 4;have Z:=qU r 5;have cx:wr.cell? ⟨G,qv r 4,none⟩=some (.int .u64 (wd M (qv r 4))):=(qq o _).trans (qC X sx);have cy:wr.cell? ⟨G,qv r 5,none⟩=some (.int .u64 (wd M (qv r 5))):=(qq o _).trans (qC X Z);have ac:wr.cell? ⟨U,4,none⟩=some (.int .i64 (qv r 4:Nat)):=I 4;have ad:wr.cell? ⟨U,5,none⟩=some (.int .i64 (qv r 5:Nat)):=I 5;clear o I;go_wp2_with fail
    refine qk (by dsimp only[List.dropLast]) (by rfl) (by rfl) (by kernel_rfl) (by kernel_rfl) (by kernel_rfl) (by kernel_rfl) ?_;repeat(go_big_quiet_step (fail))
    refine wpQuiet_nil ?_;intro _ J;obtain⟨Y,rfl⟩:=J;go_wp2_with fail
    refine(yT V (mixBig.turns L M r 2) (qG QK hL r 2) 2 6 10 14 (by decide) (by decide) (by decide) (by decide) (by decide) (by decide) (by decide) (by decide) (by decide) (by decide) _ _ Tv ((wr.alloc _).drewN Y) ((Bh _ _ _ (by omega)).trans ab.out)).mono ?_;rintro e3 w3 ⟨rfl,q,D⟩
    have H3:=hid q;have O:=hid (((aa.out.alloc _).drewN _).trans D);clear q D;go_wp2
    exact⟨⟨3,rfl,by decide,H3.out,O.out⟩,by simp[intOf]⟩
   ·have sx:=qU r 6;have Z:=qU r 7;have cx:wr.cell? ⟨G,qv r 6,none⟩=some (.int .u64 (wd M (qv r 6))):=(qq o _).trans (qC X sx);have cy:wr.cell? ⟨G,qv r 7,none⟩=some (.int .u64 (wd M (qv r 7))):=(qq o _).trans (qC X Z);have ac:wr.cell? ⟨U,6,none⟩=some (.int .i64 (qv r 6:Nat)):=I 6;have ad:wr.cell? ⟨U,7,none⟩=some (.int .i64 (qv r 7:Nat)):=I 7;clear o I;go_wp2_with fail
    refine qk (by dsimp only[List.dropLast]) (by rfl) (by rfl) (by kernel_rfl) (by kernel_rfl) (by kernel_rfl) (by kernel_rfl) ?_;repeat(go_big_quiet_step (fail))
    refine wpQuiet_nil ?_;intro _ J;obtain⟨Y,rfl⟩:=J;go_wp2_with fail
    refine(yT V (mixBig.turns L M r 3) (qG QK hL r 3) 3 7 11 15 (by decide) (by decide) (by decide) (by decide) (by decide) (by decide) (by decide) (by decide) (by decide) (by decide) _ _ Tv ((wr.alloc _).drewN Y) ((Bh _ _ _ (by omega)).trans ab.out)).mono ?_;rintro e3 w3 ⟨rfl,q,D⟩
    have H3:=hid q;have O:=hid (((aa.out.alloc _).drewN _).trans D);clear q D;go_wp2
    exact⟨⟨4,rfl,by decide,H3.out,O.out⟩,by simp[intOf]⟩
   ·have sx:=qU r 8;have Z:=qU r 9;have cx:wr.cell? ⟨G,qv r 8,none⟩=some (.int .u64 (wd M (qv r 8))):=(qq o _).trans (qC X sx);have cy:wr.cell? ⟨G,qv r 9,none⟩=some (.int .u64 (wd M (qv r 9))):=(qq o _).trans (qC X Z);have ac:wr.cell? ⟨U,8,none⟩=some (.int .i64 (qv r 8:Nat)):=I 8;have ad:wr.cell? ⟨U,9,none⟩=some (.int .i64 (qv r 9:Nat)):=I 9;clear o I;go_wp2_with fail
    refine qk (by dsimp only[List.dropLast]) (by rfl) (by rfl) (by kernel_rfl) (by kernel_rfl) (by kernel_rfl) (by kernel_rfl) ?_;repeat(go_big_quiet_step (fail))
    refine wpQuiet_nil ?_;intro _ J;obtain⟨Y,rfl⟩:=J;go_wp2_with fail
    refine(yT V (mixBig.turns L M r 4) (qG QK hL r 4) 0 5 10 15 (by decide) (by decide) (by decide) (by decide) (by decide) (by decide) (by decide) (by decide) (by decide) (by decide) _ _ Tv ((wr.alloc _).drewN Y) ((Bh _ _ _ (by omega)).trans ab.out)).mono ?_;rintro e3 w3 ⟨rfl,q,D⟩
    have H3:=hid q;have O:=hid (((aa.out.alloc _).drewN _).trans D);clear q D;go_wp2
    exact⟨⟨5,rfl,by decide,H3.out,O.out⟩,by simp[intOf]⟩
   ·have sx:=qU r 10;have Z:=qU r 11;have cx:wr.cell? ⟨G,qv r 10,none⟩=some (.int .u64 (wd M (qv r 10))):=(qq o _).trans (qC X sx);have cy:wr.cell? ⟨G,qv r 11,none⟩=some (.int .u64 (wd M (qv r 11))):=(qq o _).trans (qC X Z);have ac:wr.cell? ⟨U,10,none⟩=some (.int .i64 (qv r 10:Nat)):=I 10;have ad:wr.cell? ⟨U,11,none⟩=some (.int .i64 (qv r 11:Nat)):=I 11;clear o I;go_wp2_with fail
    refine qk (by dsimp only[List.dropLast]) (by rfl) (by rfl) (by kernel_rfl) (by kernel_rfl) (by kernel_rfl) (by kernel_rfl) ?_;repeat(go_big_quiet_step (fail))
    refine wpQuiet_nil ?_;intro _ J;obtain⟨Y,rfl⟩:=J;go_wp2_with fail
    refine(yT V (mixBig.turns L M r 5) (qG QK hL r 5) 1 6 11 12 (by decide) (by decide) (by decide) (by decide) (by decide) (by decide) (by decide) (by decide) (by decide) (by decide) _ _ Tv ((wr.alloc _).drewN Y) ((Bh _ _ _ (by omega)).trans ab.out)).mono ?_;rintro e3 w3 ⟨rfl,q,D⟩
    have H3:=hid q;have O:=hid (((aa.out.alloc _).drewN _).trans D);clear q D;go_wp2
    exact⟨⟨6,rfl,by decide,H3.out,O.out⟩,by simp[intOf]⟩
   ·have sx:=qU r 12;have Z:=qU r 13;have cx:wr.cell? ⟨G,qv r 12,none⟩=some (.int .u64 (wd M (qv r 12))):=(qq o _).trans (qC X sx);have cy:wr.cell? ⟨G,qv r 13,none⟩=some (.int .u64 (wd M (qv r 13))):=(qq o _).trans (qC X Z);have ac:wr.cell? ⟨U,12,none⟩=some (.int .i64 (qv r 12:Nat)):=I 12;have ad:wr.cell? ⟨U,13,none⟩=some (.int .i64 (qv r 13:Nat)):=I 13;clear o I;go_wp2_with fail
    refine qk (by dsimp only[List.dropLast]) (by rfl) (by rfl) (by kernel_rfl) (by kernel_rfl) (by kernel_rfl) (by kernel_rfl) ?_;repeat(go_big_quiet_step (fail))
    refine wpQuiet_nil ?_;intro _ J;obtain⟨Y,rfl⟩:=J;go_wp2_with fail
    refine(yT V (mixBig.turns L M r 6) (qG QK hL r 6) 2 7 8 13 (by decide) (by decide) (by decide) (by decide) (by decide) (by decide) (by decide) (by decide) (by decide) (by decide) _ _ Tv ((wr.alloc _).drewN Y) ((Bh _ _ _ (by omega)).trans ab.out)).mono ?_;rintro e3 w3 ⟨rfl,q,D⟩
    have H3:=hid q;have O:=hid (((aa.out.alloc _).drewN _).trans D);clear q D;go_wp2
    exact⟨⟨7,rfl,by decide,H3.out,O.out⟩,by simp[intOf]⟩
   ·have sx:=qU r 14;have Z:=qU r 15;have cx:wr.cell? ⟨G,qv r 14,none⟩=some (.int .u64 (wd M (qv r 14))):=(qq o _).trans (qC X sx);have cy:wr.cell? ⟨G,qv r 15,none⟩=some (.int .u64 (wd M (qv r 15))):=(qq o _).trans (qC X Z);have ac:wr.cell? ⟨U,14,none⟩=some (.int .i64 (qv r 14:Nat)):=I 14;have ad:wr.cell? ⟨U,15,none⟩=some (.int .i64 (qv r 15:Nat)):=I 15;clear o I;go_wp2_with fail
    refine qk (by dsimp only[List.dropLast]) (by rfl) (by rfl) (by kernel_rfl) (by kernel_rfl) (by kernel_rfl) (by kernel_rfl) ?_;repeat(go_big_quiet_step (fail))
    refine wpQuiet_nil ?_;intro _ J;obtain⟨Y,rfl⟩:=J;go_wp2_with fail
    refine(yT V (mixBig.turns L M r 7) (qG QK hL r 7) 3 4 9 14 (by decide) (by decide) (by decide) (by decide) (by decide) (by decide) (by decide) (by decide) (by decide) (by decide) _ _ Tv ((wr.alloc _).drewN Y) ((Bh _ _ _ (by omega)).trans ab.out)).mono ?_;rintro e3 w3 ⟨rfl,q,D⟩
    have H3:=hid q;have O:=hid (((aa.out.alloc _).drewN _).trans D);clear q D;go_wp2
    exact⟨⟨8,rfl,by decide,H3.out,O.out⟩,by simp[intOf]⟩
  ·obtain rfl:j=8:=by omega
   go_wp2
   exact bodyPost_end (results_none rfl _ _ _) rfl ⟨rfl,ab.out,(But.of_below' ag.out).trans aa.out⟩
theorem qeI (V G:Nat)(aq:G≠V)(L M:List Int)(hL:Words 32 16 L)(X:Words 32 16 M)(r:Nat)(hr:r<12)(Tv Tm:TypeId)(w:World)(hv:w.heap[V]? =some (.cells (qj .u32 L) Tv (0,0)))(hm:w.heap[G]? =some (.cells (qj .u32 M) Tm (0,0))):
  Calls Tryz.prog 218 #[.pointer (some ⟨V,0,none⟩),.pointer (some ⟨G,0,none⟩),.int .i64 r] w fun e w'=>e= .returned (.tuple #[])∧w'.heap[V]? =some (.cells (qj .u32 (mixSmall.round L M r)) Tv (0,0))∧But V w w':=by
 have ar:V<w.heap.size:=(Ai hv).1;have an:G<w.heap.size:=(Ai hm).1;have HV:=hid hv;have HM:=hid hm;have HC:=hid (qcl r hr);clear hv hm;go_enter Tryz.func218,Tryz.ntmps218
 go_wp2_with fail
 refine(HC.out _).mono ?_;rintro e1 w1 ⟨rfl,ah⟩;have af:=hid ah;have aj:=ah.size;clear ah HC;go_wp2_with fail
 refine(qc7 _).mono ?_;rintro e2 w2 ⟨rfl,ae⟩;obtain⟨U,ai⟩:=Ex w1.heap.size;have hS:w2.heap[U]? =_:=(ae.block U (by simp;omega)).trans (qe w1 _ ai.symm);have hV:w2.heap[V]? =_:=(ae.block V (by simp;omega)).trans ((Bh _ _ _ (by omega)).trans ((af.out.block V ar).trans HV.out));have ak:w2.heap[G]? =_:=(ae.block G (by simp;omega)).trans ((Bh _ _ _ (by omega)).trans ((af.out.block G an).trans HM.out));have ag:=hid (af.out.trans ((zY _ ae).mono aj));have ap:U<w2.heap.size:=by have:=ae.size;simp at this;omega
 have ao:U≠V:=by omega
 rw[ai];clear ae af ai aj HV HM;have HS:=hid hS;have HM:=hid ak;have HV:=hid hV;clear hS hV ak;have am:G<w2.heap.size:=by have:=ag.out.size;omega
 have au:V<w2.heap.size:=by have:=ag.out.size;omega
 go_wp2_with fail
 go_loopw [12] (fun i wr=> ∃j:Nat,i= .int .i64 j∧j≤8∧wr.heap[V]? =some (.cells (qj .u32 (mixSmall.turns L M r j)) Tv (0,0))∧But V w2 wr) (fun i _=>8 - (intOf i).toNat)
 case atStart=>exact⟨0,rfl,Nat.zero_le _,HV.out,But.refl _ _⟩
 case round=>
  obtain⟨j,rfl,hj,hV,hB⟩:=hrel;have av:=hB.size;have q1:U<wr.heap.size:=by omega
  have q2:G<wr.heap.size:=by omega
  have q3:V<wr.heap.size:=by omega
  have al:=(hB.block U ap ao).trans HS.out;have o:=(hB.block G am aq).trans HM.out;obtain⟨I,fS⟩:=qO al;have ab:=hid hV;have aa:=hid hB;clear hV al hB;by_cases aw:j<8
  ·rcases(show j=0∨j=1∨j=2∨j=3∨j=4∨j=5∨j=6∨j=7 by omega)with rfl|rfl|rfl|rfl|rfl|rfl|rfl|rfl
   ·have sx:=qU r 0;have Z:=qU r 1;have cx:wr.cell? ⟨G,qv r 0,none⟩=some (.int .u32 (wd M (qv r 0))):=(qq o _).trans (qC X sx);have cy:wr.cell? ⟨G,qv r 1,none⟩=some (.int .u32 (wd M (qv r 1))):=(qq o _).trans (qC X Z);have ac:wr.cell? ⟨U,0,none⟩=some (.int .i64 (qv r 0:Nat)):=I 0;have ad:wr.cell? ⟨U,1,none⟩=some (.int .i64 (qv r 1:Nat)):=I 1;clear o I;go_wp2_with fail
    refine qk (by dsimp only[List.dropLast]) (by rfl) (by rfl) (by kernel_rfl) (by kernel_rfl) (by kernel_rfl) (by kernel_rfl) ?_;repeat(go_big_quiet_step (fail))
    refine wpQuiet_nil ?_;intro _ J;obtain⟨Y,rfl⟩:=J;go_wp2_with fail
    refine(yU V (mixSmall.turns L M r 0) (qG Qn hL r 0) 0 4 8 12 (by decide) (by decide) (by decide) (by decide) (by decide) (by decide) (by decide) (by decide) (by decide) (by decide) _ _ Tv ((wr.alloc _).drewN Y) ((Bh _ _ _ (by omega)).trans ab.out)).mono ?_;rintro e3 w3 ⟨rfl,q,D⟩
    have H3:=hid q;have O:=hid (((aa.out.alloc _).drewN _).trans D);clear q D;go_wp2
    exact⟨⟨1,rfl,by decide,H3.out,O.out⟩,by simp[intOf]⟩
   ·have sx:=qU r 2;have Z:=qU r 3;have cx:wr.cell? ⟨G,qv r 2,none⟩=some (.int .u32 (wd M (qv r 2))):=(qq o _).trans (qC X sx);have cy:wr.cell? ⟨G,qv r 3,none⟩=some (.int .u32 (wd M (qv r 3))):=(qq o _).trans (qC X Z);have ac:wr.cell? ⟨U,2,none⟩=some (.int .i64 (qv r 2:Nat)):=I 2;have ad:wr.cell? ⟨U,3,none⟩=some (.int .i64 (qv r 3:Nat)):=I 3;clear o I;go_wp2_with fail
    refine qk (by dsimp only[List.dropLast]) (by rfl) (by rfl) (by kernel_rfl) (by kernel_rfl) (by kernel_rfl) (by kernel_rfl) ?_;repeat(go_big_quiet_step (fail))
    refine wpQuiet_nil ?_;intro _ J;obtain⟨Y,rfl⟩:=J;go_wp2_with fail
    refine(yU V (mixSmall.turns L M r 1) (qG Qn hL r 1) 1 5 9 13 (by decide) (by decide) (by decide) (by decide) (by decide) (by decide) (by decide) (by decide) (by decide) (by decide) _ _ Tv ((wr.alloc _).drewN Y) ((Bh _ _ _ (by omega)).trans ab.out)).mono ?_;rintro e3 w3 ⟨rfl,q,D⟩
    have H3:=hid q;have O:=hid (((aa.out.alloc _).drewN _).trans D);clear q D;go_wp2
    exact⟨⟨2,rfl,by decide,H3.out,O.out⟩,by simp[intOf]⟩
   ·have sx:=qU r 4;have Z:=qU r 5;have cx:wr.cell? ⟨G,qv r 4,none⟩=some (.int .u32 (wd M (qv r 4))):=(qq o _).trans (qC X sx);have cy:wr.cell? ⟨G,qv r 5,none⟩=some (.int .u32 (wd M (qv r 5))):=(qq o _).trans (qC X Z);have ac:wr.cell? ⟨U,4,none⟩=some (.int .i64 (qv r 4:Nat)):=I 4;have ad:wr.cell? ⟨U,5,none⟩=some (.int .i64 (qv r 5:Nat)):=I 5;clear o I;go_wp2_with fail
    refine qk (by dsimp only[List.dropLast]) (by rfl) (by rfl) (by kernel_rfl) (by kernel_rfl) (by kernel_rfl) (by kernel_rfl) ?_;repeat(go_big_quiet_step (fail))
    refine wpQuiet_nil ?_;intro _ J;obtain⟨Y,rfl⟩:=J;go_wp2_with fail
    refine(yU V (mixSmall.turns L M r 2) (qG Qn hL r 2) 2 6 10 14 (by decide) (by decide) (by decide) (by decide) (by decide) (by decide) (by decide) (by decide) (by decide) (by decide) _ _ Tv ((wr.alloc _).drewN Y) ((Bh _ _ _ (by omega)).trans ab.out)).mono ?_;rintro e3 w3 ⟨rfl,q,D⟩
    have H3:=hid q;have O:=hid (((aa.out.alloc _).drewN _).trans D);clear q D;go_wp2
    exact⟨⟨3,rfl,by decide,H3.out,O.out⟩,by simp[intOf]⟩
   ·have sx:=qU r 6;have Z:=qU r 7;have cx:wr.cell? ⟨G,qv r 6,none⟩=some (.int .u32 (wd M (qv r 6))):=(qq o _).trans (qC X sx);have cy:wr.cell? ⟨G,qv r 7,none⟩=some (.int .u32 (wd M (qv r 7))):=(qq o _).trans (qC X Z);have ac:wr.cell? ⟨U,6,none⟩=some (.int .i64 (qv r 6:Nat)):=I 6;have ad:wr.cell? ⟨U,7,none⟩=some (.int .i64 (qv r 7:Nat)):=I 7;clear o I;go_wp2_with fail
    refine qk (by dsimp only[List.dropLast]) (by rfl) (by rfl) (by kernel_rfl) (by kernel_rfl) (by kernel_rfl) (by kernel_rfl) ?_;repeat(go_big_quiet_step (fail))
    refine wpQuiet_nil ?_;intro _ J;obtain⟨Y,rfl⟩:=J;go_wp2_with fail
    refine(yU V (mixSmall.turns L M r 3) (qG Qn hL r 3) 3 7 11 15 (by decide) (by decide) (by decide) (by decide) (by decide) (by decide) (by decide) (by decide) (by decide) (by decide) _ _ Tv ((wr.alloc _).drewN Y) ((Bh _ _ _ (by omega)).trans ab.out)).mono ?_;rintro e3 w3 ⟨rfl,q,D⟩
    have H3:=hid q;have O:=hid (((aa.out.alloc _).drewN _).trans D);clear q D;go_wp2
    exact⟨⟨4,rfl,by decide,H3.out,O.out⟩,by simp[intOf]⟩
   ·have sx:=qU r 8;have Z:=qU r 9;have cx:wr.cell? ⟨G,qv r 8,none⟩=some (.int .u32 (wd M (qv r 8))):=(qq o _).trans (qC X sx);have cy:wr.cell? ⟨G,qv r 9,none⟩=some (.int .u32 (wd M (qv r 9))):=(qq o _).trans (qC X Z);have ac:wr.cell? ⟨U,8,none⟩=some (.int .i64 (qv r 8:Nat)):=I 8;have ad:wr.cell? ⟨U,9,none⟩=some (.int .i64 (qv r 9:Nat)):=I 9;clear o I;go_wp2_with fail
    refine qk (by dsimp only[List.dropLast]) (by rfl) (by rfl) (by kernel_rfl) (by kernel_rfl) (by kernel_rfl) (by kernel_rfl) ?_;repeat(go_big_quiet_step (fail))
    refine wpQuiet_nil ?_;intro _ J;obtain⟨Y,rfl⟩:=J;go_wp2_with fail
    refine(yU V (mixSmall.turns L M r 4) (qG Qn hL r 4) 0 5 10 15 (by decide) (by decide) (by decide) (by decide) (by decide) (by decide) (by decide) (by decide) (by decide) (by decide) _ _ Tv ((wr.alloc _).drewN Y) ((Bh _ _ _ (by omega)).trans ab.out)).mono ?_;rintro e3 w3 ⟨rfl,q,D⟩
    have H3:=hid q;have O:=hid (((aa.out.alloc _).drewN _).trans D);clear q D;go_wp2
    exact⟨⟨5,rfl,by decide,H3.out,O.out⟩,by simp[intOf]⟩
   ·have sx:=qU r 10;have Z:=qU r 11;have cx:wr.cell? ⟨G,qv r 10,none⟩=some (.int .u32 (wd M (qv r 10))):=(qq o _).trans (qC X sx);have cy:wr.cell? ⟨G,qv r 11,none⟩=some (.int .u32 (wd M (qv r 11))):=(qq o _).trans (qC X Z);have ac:wr.cell? ⟨U,10,none⟩=some (.int .i64 (qv r 10:Nat)):=I 10;have ad:wr.cell? ⟨U,11,none⟩=some (.int .i64 (qv r 11:Nat)):=I 11;clear o I;go_wp2_with fail
    refine qk (by dsimp only[List.dropLast]) (by rfl) (by rfl) (by kernel_rfl) (by kernel_rfl) (by kernel_rfl) (by kernel_rfl) ?_;repeat(go_big_quiet_step (fail))
    refine wpQuiet_nil ?_;intro _ J;obtain⟨Y,rfl⟩:=J;go_wp2_with fail
    refine(yU V (mixSmall.turns L M r 5) (qG Qn hL r 5) 1 6 11 12 (by decide) (by decide) (by decide) (by decide) (by decide) (by decide) (by decide) (by decide) (by decide) (by decide) _ _ Tv ((wr.alloc _).drewN Y) ((Bh _ _ _ (by omega)).trans ab.out)).mono ?_;rintro e3 w3 ⟨rfl,q,D⟩
    have H3:=hid q;have O:=hid (((aa.out.alloc _).drewN _).trans D);clear q D;go_wp2
    exact⟨⟨6,rfl,by decide,H3.out,O.out⟩,by simp[intOf]⟩
   ·have sx:=qU r 12;have Z:=qU r 13;have cx:wr.cell? ⟨G,qv r 12,none⟩=some (.int .u32 (wd M (qv r 12))):=(qq o _).trans (qC X sx);have cy:wr.cell? ⟨G,qv r 13,none⟩=some (.int .u32 (wd M (qv r 13))):=(qq o _).trans (qC X Z);have ac:wr.cell? ⟨U,12,none⟩=some (.int .i64 (qv r 12:Nat)):=I 12;have ad:wr.cell? ⟨U,13,none⟩=some (.int .i64 (qv r 13:Nat)):=I 13;clear o I;go_wp2_with fail
    refine qk (by dsimp only[List.dropLast]) (by rfl) (by rfl) (by kernel_rfl) (by kernel_rfl) (by kernel_rfl) (by kernel_rfl) ?_;repeat(go_big_quiet_step (fail))
    refine wpQuiet_nil ?_;intro _ J;obtain⟨Y,rfl⟩:=J;go_wp2_with fail
    refine(yU V (mixSmall.turns L M r 6) (qG Qn hL r 6) 2 7 8 13 (by decide) (by decide) (by decide) (by decide) (by decide) (by decide) (by decide) (by decide) (by decide) (by decide) _ _ Tv ((wr.alloc _).drewN Y) ((Bh _ _ _ (by omega)).trans ab.out)).mono ?_;rintro e3 w3 ⟨rfl,q,D⟩
    have H3:=hid q;have O:=hid (((aa.out.alloc _).drewN _).trans D);clear q D;go_wp2
    exact⟨⟨7,rfl,by decide,H3.out,O.out⟩,by simp[intOf]⟩
   ·have sx:=qU r 14;have Z:=qU r 15;have cx:wr.cell? ⟨G,qv r 14,none⟩=some (.int .u32 (wd M (qv r 14))):=(qq o _).trans (qC X sx);have cy:wr.cell? ⟨G,qv r 15,none⟩=some (.int .u32 (wd M (qv r 15))):=(qq o _).trans (qC X Z);have ac:wr.cell? ⟨U,14,none⟩=some (.int .i64 (qv r 14:Nat)):=I 14;have ad:wr.cell? ⟨U,15,none⟩=some (.int .i64 (qv r 15:Nat)):=I 15;clear o I;go_wp2_with fail
    refine qk (by dsimp only[List.dropLast]) (by rfl) (by rfl) (by kernel_rfl) (by kernel_rfl) (by kernel_rfl) (by kernel_rfl) ?_;repeat(go_big_quiet_step (fail))
    refine wpQuiet_nil ?_;intro _ J;obtain⟨Y,rfl⟩:=J;go_wp2_with fail
    refine(yU V (mixSmall.turns L M r 7) (qG Qn hL r 7) 3 4 9 14 (by decide) (by decide) (by decide) (by decide) (by decide) (by decide) (by decide) (by decide) (by decide) (by decide) _ _ Tv ((wr.alloc _).drewN Y) ((Bh _ _ _ (by omega)).trans ab.out)).mono ?_;rintro e3 w3 ⟨rfl,q,D⟩
    have H3:=hid q;have O:=hid (((aa.out.alloc _).drewN _).trans D);clear q D;go_wp2
    exact⟨⟨8,rfl,by decide,H3.out,O.out⟩,by simp[intOf]⟩
  ·obtain rfl:j=8:=by omega
   go_wp2
   exact bodyPost_end (results_none rfl _ _ _) rfl ⟨rfl,ab.out,(But.of_below' ag.out).trans aa.out⟩
end Go.Proofs.YthjoojnlnlmljaaGreat
