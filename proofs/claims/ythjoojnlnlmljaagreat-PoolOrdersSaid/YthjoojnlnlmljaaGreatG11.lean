/- A round of the mixing, by the program, both kinds. No condition. -/
import Derived.Test.YthjoojnlnlmljaaGreatG10
set_option linter.all false
set_option maxRecDepth 100000
set_option maxHeartbeats 8000000
namespace Go.Proofs.YthjoojnlnlmljaaGreat
open Go.ChangeShapes Go.WideShapes Go.ChangeAt Go.RowKit Go.Joins
open Go.Lib (hid)
attribute [local go_sem] Oper.semAt_some
theorem YI {P:Program}{w:World}(t:TypeId)(cs:Array Value)(k:IntKind)(i:Int)(h:P.underlying t=some (.array (P.arrayLen t) (P.elem t))):
  (Instr.index t (.agg cs) (.int k i)).run P w=if 0≤i∧i<P.arrayLen t then((sizeOf (P.elem t)).run P w).andThen fun s w=>(part (P.elem t) cs (i.toNat*s)).run P w else(boundsPanic k i (P.arrayLen t) .index).run P w:=by
 simp only[Instr.index,Sem.run_bind,run_underlying h,asIntOf,Sem.run_pure,Result.andThen_ok];split<;>simp
attribute [local go_sem] YI
structure MixOk (K:MixK):Prop where
 wrap: ∀z,K.k.wrap z=z%2^K.n
 r2:K.r2≤K.n
 r1:K.r1≤K.n
 r3:K.r3≤K.n
 r4:K.r4≤K.n
theorem QG:MixOk mixBig:=⟨fun z=>IntKind.wrap_u64 z,by decide,by decide,by decide,by decide⟩
theorem Ql:MixOk mixSmall:=⟨fun z=>IntKind.wrap_u32 z,by decide,by decide,by decide,by decide⟩
theorem qeR {K:MixK}(o:MixOk K){L:List Int}(q:Words K.n 16 L)(a b c d:Nat)(x y:Int):Words K.n 16 (K.step L a b c d x y):=by
 unfold MixK.step;refine Words.set (Words.set (Words.set (Words.set q ?_) ?_) ?_) ?_
 ·exact Je _ _
 ·exact ZP o.r3 (Qb _ _ _ o.wrap _ _)
 ·exact Je _ _
 ·exact ZP o.r4 (Qb _ _ _ o.wrap _ _)
theorem qF {K:MixK}(o:MixOk K){L M:List Int}(q:Words K.n 16 L)(r:Nat): ∀i,Words K.n 16 (K.turns L M r i)
 | 0=>q
 | i+1=>qeR o (qF o q r i) _ _ _ _ _ _
theorem QW {K:MixK}(o:MixOk K){L M:List Int}(q:Words K.n 16 L): ∀i,Words K.n 16 (K.rounds L M i)
 | 0=>q
 | i+1=>qF o (QW o q i) _ _
theorem qcd (r:Nat)(o:r<12)(w:World):Calls Tryz.prog 227 #[.int .i64 r] w fun e w'=>e= .returned (.agg #[.int .i64 (qw r 0:Nat),.int .i64 (qw r 1:Nat),.int .i64 (qw r 2:Nat),.int .i64 (qw r 3:Nat),.int .i64 (qw r 4:Nat),.int .i64 (qw r 5:Nat),.int .i64 (qw r 6:Nat),.int .i64 (qw r 7:Nat),.int .i64 (qw r 8:Nat),.int .i64 (qw r 9:Nat),.int .i64 (qw r 10:Nat),.int .i64 (qw r 11:Nat),.int .i64 (qw r 12:Nat),.int .i64 (qw r 13:Nat),.int .i64 (qw r 14:Nat),.int .i64 (qw r 15:Nat)])∧Below w.heap.size w w':=by
 have D: ∀r<12,[qw r 0,qw r 1,qw r 2,qw r 3,qw r 4,qw r 5,qw r 6,qw r 7,qw r 8,qw r 9,qw r 10,qw r 11,qw r 12,qw r 13,qw r 14,qw r 15]=JX r:=by decide+kernel
 refine(qgk r o w).mono ?_;rintro e w' ⟨rfl,q⟩
 exact⟨by rw[←D r o];rfl,q⟩
theorem qfd (w:World):Calls Tryz.prog 228 #[] w fun e w'=>e= .returned (.agg #[.int .i64 0,.int .i64 4,.int .i64 8,.int .i64 12,.int .i64 1,.int .i64 5,.int .i64 9,.int .i64 13,.int .i64 2,.int .i64 6,.int .i64 10,.int .i64 14,.int .i64 3,.int .i64 7,.int .i64 11,.int .i64 15,.int .i64 0,.int .i64 5,.int .i64 10,.int .i64 15,.int .i64 1,.int .i64 6,.int .i64 11,.int .i64 12,.int .i64 2,.int .i64 7,.int .i64 8,.int .i64 13,.int .i64 3,.int .i64 4,.int .i64 9,.int .i64 14])∧Below w.heap.size w w':=by
 refine(qfe w).mono ?_;rintro e w' ⟨rfl,o⟩
 exact⟨rfl,o⟩
theorem qc2 (w:World):Calls Tryz.prog 230 #[] w fun e w'=>e= .returned (.agg zb)∧Below w.heap.size w w':=by
 go_enter Tryz.func230,Tryz.ntmps230
 go_upto_region 1 with(fail)
 apply wp_region_lit
 refine wpList_buildTo rfl 330 _ rfl (some 1) rfl (yv (YC 0)) (by kernel_rfl) ?_;simp only[Act.put,Ls];refine wpList_buildTo rfl 330 _ rfl (some 2) rfl (yv (YC 1)) (by kernel_rfl) ?_;simp only[Act.put,Ls];refine wpList_buildTo rfl 330 _ rfl (some 3) rfl (yv (YC 2)) (by kernel_rfl) ?_;simp only[Act.put,Ls];refine wpList_buildTo rfl 330 _ rfl (some 4) rfl (yv (YC 3)) (by kernel_rfl) ?_;simp only[Act.put,Ls];refine wpList_buildTo rfl 330 _ rfl (some 5) rfl (yv (YC 4)) (by kernel_rfl) ?_;simp only[Act.put,Ls];refine wpList_buildTo rfl 330 _ rfl (some 6) rfl (yv (YC 5)) (by kernel_rfl) ?_;simp only[Act.put,Ls];refine wpList_buildTo rfl 330 _ rfl (some 7) rfl (yv (YC 6)) (by kernel_rfl) ?_;simp only[Act.put,Ls];refine wpList_buildTo rfl 330 _ rfl (some 8) rfl (yv (YC 7)) (by kernel_rfl) ?_;simp only[Act.put,Ls];refine wpList_buildTo rfl 339 _ rfl (some 9) rfl zb (by kernel_rfl) ?_;simp only[Act.put,Ls];refine wpList_store_row rfl 339 _ _ rfl w.heap.size zb rfl rfl 339 _ (Wn _ _) (by kernel_rfl) (by kernel_rfl) (by kernel_rfl) ?_;simp only[Act.put,Ls];go_wp2_with fail
 exact Bp (results_cell_row rfl _ _ _ _ _ _ _ rfl (setRow_heap _ _ _ _ _ _ (Wn _ _)) Tryz.underlying339 rfl (by kernel_rfl)) rfl ⟨rfl,((Below.refl w.heap.size w).alloc Nl _).trans ⟨rfl,rfl,rfl,by simp,fun g o=>setRow_other _ _ _ _ (by omega)⟩⟩
theorem qc1 (w:World):Calls Tryz.prog 230 #[] w fun e w'=>e= .returned (.agg #[.int .i64 0,.int .i64 4,.int .i64 8,.int .i64 12,.int .i64 1,.int .i64 5,.int .i64 9,.int .i64 13,.int .i64 2,.int .i64 6,.int .i64 10,.int .i64 14,.int .i64 3,.int .i64 7,.int .i64 11,.int .i64 15,.int .i64 0,.int .i64 5,.int .i64 10,.int .i64 15,.int .i64 1,.int .i64 6,.int .i64 11,.int .i64 12,.int .i64 2,.int .i64 7,.int .i64 8,.int .i64 13,.int .i64 3,.int .i64 4,.int .i64 9,.int .i64 14])∧Below w.heap.size w w':=by
 refine(qc2 w).mono ?_;rintro e w' ⟨rfl,o⟩
 exact⟨rfl,o⟩
theorem zP {w q:World}(o:Obj)(D:Below (w.alloc o).heap.size (w.alloc o) q):Below w.heap.size w q:=
 (Below.alloc Br Nl o).trans (D.mono (by simp))
theorem But.of_below' {b:Nat}{w w':World}(h:Below w.heap.size w w'):But b w w':=⟨h.os,h.tape,h.output,h.size,fun g o _=>h.block g o⟩
theorem qeG (U G:Nat)(an:G≠U)(L M:List Int)(hL:Words 64 16 L)(X:Words 64 16 M)(r:Nat)(hr:r<12)(Tv Tm:TypeId)(w:World)(hv:w.heap[U]? =some (.cells (qi .u64 L) Tv (0,0)))(hm:w.heap[G]? =some (.cells (qi .u64 M) Tm (0,0))):
  Calls Tryz.prog 215 #[.pointer (some ⟨U,0,none⟩),.pointer (some ⟨G,0,none⟩),.int .i64 r] w fun e w'=>e= .returned (.tuple #[])∧w'.heap[U]? =some (.cells (qi .u64 (mixBig.round L M r)) Tv (0,0))∧But U w w':=by
 have ar:U<w.heap.size:=(Ai hv).1;have ao:G<w.heap.size:=(Ai hm).1;have HV:=hid hv;have HM:=hid hm;have HC:=hid (qcd r hr);clear hv hm;go_enter Tryz.func215,Tryz.ntmps215
 go_wp2_with fail
 refine(HC.out _).mono ?_;rintro e1 w1 ⟨rfl,ag⟩;have af:=hid ag;have al:=ag.size;clear ag HC;go_wp2_with fail
 refine(qfd _).mono ?_;rintro e2 w2 ⟨rfl,ae⟩;obtain⟨V,ah⟩:=Ex w1.heap.size;have hS:w2.heap[V]? =_:=(ae.block V (by simp;omega)).trans (qe w1 _ ah.symm);have hV:w2.heap[U]? =_:=(ae.block U (by simp;omega)).trans ((Bh _ _ _ (by omega)).trans ((af.out.block U ar).trans HV.out));have aj:w2.heap[G]? =_:=(ae.block G (by simp;omega)).trans ((Bh _ _ _ (by omega)).trans ((af.out.block G ao).trans HM.out));have ai:=hid (af.out.trans ((zP _ ae).mono al));have aq:V<w2.heap.size:=by have:=ae.size;simp at this;omega
 have ap:V≠U:=by omega
 rw[ah];clear ae af ah al HV HM;have HS:=hid hS;have HM:=hid aj;have HV:=hid hV;clear hS hV aj;have am:G<w2.heap.size:=by have:=ai.out.size;omega
 have au:U<w2.heap.size:=by have:=ai.out.size;omega
 go_wp2_with fail
 go_loopw [12] (fun i wr=> ∃j:Nat,i= .int .i64 j∧j≤8∧wr.heap[U]? =some (.cells (qi .u64 (mixBig.turns L M r j)) Tv (0,0))∧But U w2 wr) (fun i _=>8 - (intOf i).toNat)
 case atStart=>exact⟨0,rfl,Nat.zero_le _,HV.out,But.refl _ _⟩
 case round=>
  obtain⟨j,rfl,hj,hV,hB⟩:=hrel;have av:=hB.size;have q1:V<wr.heap.size:=by omega
  have q2:G<wr.heap.size:=by omega
  have q3:U<wr.heap.size:=by omega
  have ak:=(hB.block V aq ap).trans HS.out;have o:=(hB.block G am an).trans HM.out;obtain⟨I,fS⟩:=qO ak;have ab:=hid hV;have aa:=hid hB;clear hV ak hB;by_cases aw:j<8
  ·rcases(show j=0∨j=1∨j=2∨j=3∨j=4∨j=5∨j=6∨j=7 by omega)with rfl|rfl|rfl|rfl|rfl|rfl|rfl|rfl
   ·have Y:=qR r 0;have sy:=qR r 1;have cx:wr.cell? ⟨G,qw r 0,none⟩=some (.int .u64 (wd M (qw r 0))):=(qs o _).trans (qC X Y);have cy:wr.cell? ⟨G,qw r 1,none⟩=some (.int .u64 (wd M (qw r 1))):=(qs o _).trans (qC X sy);have ad:wr.cell? ⟨V,0,none⟩=some (.int .i64 (qw r 0:Nat)):=I 0;have ac:wr.cell? ⟨V,1,none⟩=some (.int .i64 (qw r 1:Nat)):=I 1;clear o I;go_wp2_with fail
    refine qj (by dsimp only[List.dropLast]) (by rfl) (by rfl) (by kernel_rfl) (by kernel_rfl) (by kernel_rfl) (by kernel_rfl) ?_;repeat(go_big_quiet_step (fail))
    refine wpQuiet_nil ?_;intro _ J;obtain⟨Z,rfl⟩:=J;go_wp2_with fail
    refine(yK U (mixBig.turns L M r 0) (qF QG hL r 0) 0 4 8 12 (by decide) (by decide) (by decide) (by decide) (by decide) (by decide) (by decide) (by decide) (by decide) (by decide) _ _ Tv ((wr.alloc _).drewN Z) ((Bh _ _ _ (by omega)).trans ab.out)).mono ?_;rintro e3 w3 ⟨rfl,q,D⟩
    have H3:=hid q;have O:=hid (((aa.out.alloc _).drewN _).trans D);clear q D;go_wp2
    exact⟨⟨1,rfl,by decide,H3.out,O.out⟩,by simp[intOf]⟩
   ·have Y:=qR r 2;have sy:=qR r 3;have cx:wr.cell? ⟨G,qw r 2,none⟩=some (.int .u64 (wd M (qw r 2))):=(qs o _).trans (qC X Y);have cy:wr.cell? ⟨G,qw r 3,none⟩=some (.int .u64 (wd M (qw r 3))):=(qs o _).trans (qC X sy);have ad:wr.cell? ⟨V,2,none⟩=some (.int .i64 (qw r 2:Nat)):=I 2;have ac:wr.cell? ⟨V,3,none⟩=some (.int .i64 (qw r 3:Nat)):=I 3;clear o I;go_wp2_with fail
    refine qj (by dsimp only[List.dropLast]) (by rfl) (by rfl) (by kernel_rfl) (by kernel_rfl) (by kernel_rfl) (by kernel_rfl) ?_;repeat(go_big_quiet_step (fail))
    refine wpQuiet_nil ?_;intro _ J;obtain⟨Z,rfl⟩:=J;go_wp2_with fail
    refine(yK U (mixBig.turns L M r 1) (qF QG hL r 1) 1 5 9 13 (by decide) (by decide) (by decide) (by decide) (by decide) (by decide) (by decide) (by decide) (by decide) (by decide) _ _ Tv ((wr.alloc _).drewN Z) ((Bh _ _ _ (by omega)).trans ab.out)).mono ?_;rintro e3 w3 ⟨rfl,q,D⟩
    have H3:=hid q;have O:=hid (((aa.out.alloc _).drewN _).trans D);clear q D;go_wp2
    exact⟨⟨2,rfl,by decide,H3.out,O.out⟩,by simp[intOf]⟩
   ·have Y:=qR r 4;have sy:=qR r 5;have cx:wr.cell? ⟨G,qw r 4,none⟩=some (.int .u64 (wd M (qw r 4))):=(qs o _).trans (qC X Y);have cy:wr.cell? ⟨G,qw r 5,none⟩=some (.int .u64 (wd M (qw r 5))):=(qs o _).trans (qC X sy);have ad:wr.cell? ⟨V,4,none⟩=some (.int .i64 (qw r 4:Nat)):=I 4;have ac:wr.cell? ⟨V,5,none⟩=some (.int .i64 (qw r 5:Nat)):=I 5;clear o I;go_wp2_with fail
    refine qj (by dsimp only[List.dropLast]) (by rfl) (by rfl) (by kernel_rfl) (by kernel_rfl) (by kernel_rfl) (by kernel_rfl) ?_;repeat(go_big_quiet_step (fail))
    refine wpQuiet_nil ?_;intro _ J;obtain⟨Z,rfl⟩:=J;go_wp2_with fail
    refine(yK U (mixBig.turns L M r 2) (qF QG hL r 2) 2 6 10 14 (by decide) (by decide) (by decide) (by decide) (by decide) (by decide) (by decide) (by decide) (by decide) (by decide) _ _ Tv ((wr.alloc _).drewN Z) ((Bh _ _ _ (by omega)).trans ab.out)).mono ?_;rintro e3 w3 ⟨rfl,q,D⟩
    have H3:=hid q;have O:=hid (((aa.out.alloc _).drewN _).trans D);clear q D;go_wp2
    exact⟨⟨3,rfl,by decide,H3.out,O.out⟩,by simp[intOf]⟩
   ·have Y:=qR r 6;have sy:=qR r 7;have cx:wr.cell? ⟨G,qw r 6,none⟩=some (.int .u64 (wd M (qw r 6))):=(qs o _).trans (qC X Y);have cy:wr.cell? ⟨G,qw r 7,none⟩=some (.int .u64 (wd M (qw r 7))):=(qs o _).trans (qC X sy);have ad:wr.cell? ⟨V,6,none⟩=some (.int .i64 (qw r 6:Nat)):=I 6;have ac:wr.cell? ⟨V,7,none⟩=some (.int .i64 (qw r 7:Nat)):=I 7;clear o I;go_wp2_with fail
    refine qj (by dsimp only[List.dropLast]) (by rfl) (by rfl) (by kernel_rfl) (by kernel_rfl) (by kernel_rfl) (by kernel_rfl) ?_;repeat(go_big_quiet_step (fail))
    refine wpQuiet_nil ?_;intro _ J;obtain⟨Z,rfl⟩:=J;go_wp2_with fail
    refine(yK U (mixBig.turns L M r 3) (qF QG hL r 3) 3 7 11 15 (by decide) (by decide) (by decide) (by decide) (by decide) (by decide) (by decide) (by decide) (by decide) (by decide) _ _ Tv ((wr.alloc _).drewN Z) ((Bh _ _ _ (by omega)).trans ab.out)).mono ?_;rintro e3 w3 ⟨rfl,q,D⟩
    have H3:=hid q;have O:=hid (((aa.out.alloc _).drewN _).trans D);clear q D;go_wp2
    exact⟨⟨4,rfl,by decide,H3.out,O.out⟩,by simp[intOf]⟩
   ·have Y:=qR r 8;have sy:=qR r 9;have cx:wr.cell? ⟨G,qw r 8,none⟩=some (.int .u64 (wd M (qw r 8))):=(qs o _).trans (qC X Y);have cy:wr.cell? ⟨G,qw r 9,none⟩=some (.int .u64 (wd M (qw r 9))):=(qs o _).trans (qC X sy);have ad:wr.cell? ⟨V,8,none⟩=some (.int .i64 (qw r 8:Nat)):=I 8;have ac:wr.cell? ⟨V,9,none⟩=some (.int .i64 (qw r 9:Nat)):=I 9;clear o I;go_wp2_with fail
    refine qj (by dsimp only[List.dropLast]) (by rfl) (by rfl) (by kernel_rfl) (by kernel_rfl) (by kernel_rfl) (by kernel_rfl) ?_;repeat(go_big_quiet_step (fail))
    refine wpQuiet_nil ?_;intro _ J;obtain⟨Z,rfl⟩:=J;go_wp2_with fail
    refine(yK U (mixBig.turns L M r 4) (qF QG hL r 4) 0 5 10 15 (by decide) (by decide) (by decide) (by decide) (by decide) (by decide) (by decide) (by decide) (by decide) (by decide) _ _ Tv ((wr.alloc _).drewN Z) ((Bh _ _ _ (by omega)).trans ab.out)).mono ?_;rintro e3 w3 ⟨rfl,q,D⟩
    have H3:=hid q;have O:=hid (((aa.out.alloc _).drewN _).trans D);clear q D;go_wp2
    exact⟨⟨5,rfl,by decide,H3.out,O.out⟩,by simp[intOf]⟩
   ·have Y:=qR r 10;have sy:=qR r 11;have cx:wr.cell? ⟨G,qw r 10,none⟩=some (.int .u64 (wd M (qw r 10))):=(qs o _).trans (qC X Y);have cy:wr.cell? ⟨G,qw r 11,none⟩=some (.int .u64 (wd M (qw r 11))):=(qs o _).trans (qC X sy);have ad:wr.cell? ⟨V,10,none⟩=some (.int .i64 (qw r 10:Nat)):=I 10;have ac:wr.cell? ⟨V,11,none⟩=some (.int .i64 (qw r 11:Nat)):=I 11;clear o I;go_wp2_with fail
    refine qj (by dsimp only[List.dropLast]) (by rfl) (by rfl) (by kernel_rfl) (by kernel_rfl) (by kernel_rfl) (by kernel_rfl) ?_;repeat(go_big_quiet_step (fail))
    refine wpQuiet_nil ?_;intro _ J;obtain⟨Z,rfl⟩:=J;go_wp2_with fail
    refine(yK U (mixBig.turns L M r 5) (qF QG hL r 5) 1 6 11 12 (by decide) (by decide) (by decide) (by decide) (by decide) (by decide) (by decide) (by decide) (by decide) (by decide) _ _ Tv ((wr.alloc _).drewN Z) ((Bh _ _ _ (by omega)).trans ab.out)).mono ?_;rintro e3 w3 ⟨rfl,q,D⟩
    have H3:=hid q;have O:=hid (((aa.out.alloc _).drewN _).trans D);clear q D;go_wp2
    exact⟨⟨6,rfl,by decide,H3.out,O.out⟩,by simp[intOf]⟩
   ·have Y:=qR r 12;have sy:=qR r 13;have cx:wr.cell? ⟨G,qw r 12,none⟩=some (.int .u64 (wd M (qw r 12))):=(qs o _).trans (qC X Y);have cy:wr.cell? ⟨G,qw r 13,none⟩=some (.int .u64 (wd M (qw r 13))):=(qs o _).trans (qC X sy);have ad:wr.cell? ⟨V,12,none⟩=some (.int .i64 (qw r 12:Nat)):=I 12;have ac:wr.cell? ⟨V,13,none⟩=some (.int .i64 (qw r 13:Nat)):=I 13;clear o I;go_wp2_with fail
    refine qj (by dsimp only[List.dropLast]) (by rfl) (by rfl) (by kernel_rfl) (by kernel_rfl) (by kernel_rfl) (by kernel_rfl) ?_;repeat(go_big_quiet_step (fail))
    refine wpQuiet_nil ?_;intro _ J;obtain⟨Z,rfl⟩:=J;go_wp2_with fail
    refine(yK U (mixBig.turns L M r 6) (qF QG hL r 6) 2 7 8 13 (by decide) (by decide) (by decide) (by decide) (by decide) (by decide) (by decide) (by decide) (by decide) (by decide) _ _ Tv ((wr.alloc _).drewN Z) ((Bh _ _ _ (by omega)).trans ab.out)).mono ?_;rintro e3 w3 ⟨rfl,q,D⟩
    have H3:=hid q;have O:=hid (((aa.out.alloc _).drewN _).trans D);clear q D;go_wp2
    exact⟨⟨7,rfl,by decide,H3.out,O.out⟩,by simp[intOf]⟩
   ·have Y:=qR r 14;have sy:=qR r 15;have cx:wr.cell? ⟨G,qw r 14,none⟩=some (.int .u64 (wd M (qw r 14))):=(qs o _).trans (qC X Y);have cy:wr.cell? ⟨G,qw r 15,none⟩=some (.int .u64 (wd M (qw r 15))):=(qs o _).trans (qC X sy);have ad:wr.cell? ⟨V,14,none⟩=some (.int .i64 (qw r 14:Nat)):=I 14;have ac:wr.cell? ⟨V,15,none⟩=some (.int .i64 (qw r 15:Nat)):=I 15;clear o I;go_wp2_with fail
    refine qj (by dsimp only[List.dropLast]) (by rfl) (by rfl) (by kernel_rfl) (by kernel_rfl) (by kernel_rfl) (by kernel_rfl) ?_;repeat(go_big_quiet_step (fail))
    refine wpQuiet_nil ?_;intro _ J;obtain⟨Z,rfl⟩:=J;go_wp2_with fail
    refine(yK U (mixBig.turns L M r 7) (qF QG hL r 7) 3 4 9 14 (by decide) (by decide) (by decide) (by decide) (by decide) (by decide) (by decide) (by decide) (by decide) (by decide) _ _ Tv ((wr.alloc _).drewN Z) ((Bh _ _ _ (by omega)).trans ab.out)).mono ?_;rintro e3 w3 ⟨rfl,q,D⟩
    have H3:=hid q;have O:=hid (((aa.out.alloc _).drewN _).trans D);clear q D;go_wp2
    exact⟨⟨8,rfl,by decide,H3.out,O.out⟩,by simp[intOf]⟩
  ·obtain rfl:j=8:=by omega
   go_wp2
   exact bodyPost_end (results_none rfl _ _ _) rfl ⟨rfl,ab.out,(But.of_below' ai.out).trans aa.out⟩
theorem qeH (U G:Nat)(an:G≠U)(L M:List Int)(hL:Words 32 16 L)(X:Words 32 16 M)(r:Nat)(hr:r<12)(Tv Tm:TypeId)(w:World)(hv:w.heap[U]? =some (.cells (qi .u32 L) Tv (0,0)))(hm:w.heap[G]? =some (.cells (qi .u32 M) Tm (0,0))):
  Calls Tryz.prog 218 #[.pointer (some ⟨U,0,none⟩),.pointer (some ⟨G,0,none⟩),.int .i64 r] w fun e w'=>e= .returned (.tuple #[])∧w'.heap[U]? =some (.cells (qi .u32 (mixSmall.round L M r)) Tv (0,0))∧But U w w':=by
 have ar:U<w.heap.size:=(Ai hv).1;have ao:G<w.heap.size:=(Ai hm).1;have HV:=hid hv;have HM:=hid hm;have HC:=hid (qcd r hr);clear hv hm;go_enter Tryz.func218,Tryz.ntmps218
 go_wp2_with fail
 refine(HC.out _).mono ?_;rintro e1 w1 ⟨rfl,ag⟩;have af:=hid ag;have al:=ag.size;clear ag HC;go_wp2_with fail
 refine(qc1 _).mono ?_;rintro e2 w2 ⟨rfl,ae⟩;obtain⟨V,ah⟩:=Ex w1.heap.size;have hS:w2.heap[V]? =_:=(ae.block V (by simp;omega)).trans (qe w1 _ ah.symm);have hV:w2.heap[U]? =_:=(ae.block U (by simp;omega)).trans ((Bh _ _ _ (by omega)).trans ((af.out.block U ar).trans HV.out));have aj:w2.heap[G]? =_:=(ae.block G (by simp;omega)).trans ((Bh _ _ _ (by omega)).trans ((af.out.block G ao).trans HM.out));have ai:=hid (af.out.trans ((zP _ ae).mono al));have aq:V<w2.heap.size:=by have:=ae.size;simp at this;omega
 have ap:V≠U:=by omega
 rw[ah];clear ae af ah al HV HM;have HS:=hid hS;have HM:=hid aj;have HV:=hid hV;clear hS hV aj;have am:G<w2.heap.size:=by have:=ai.out.size;omega
 have au:U<w2.heap.size:=by have:=ai.out.size;omega
 go_wp2_with fail
 go_loopw [12] (fun i wr=> ∃j:Nat,i= .int .i64 j∧j≤8∧wr.heap[U]? =some (.cells (qi .u32 (mixSmall.turns L M r j)) Tv (0,0))∧But U w2 wr) (fun i _=>8 - (intOf i).toNat)
 case atStart=>exact⟨0,rfl,Nat.zero_le _,HV.out,But.refl _ _⟩
 case round=>
  obtain⟨j,rfl,hj,hV,hB⟩:=hrel;have av:=hB.size;have q1:V<wr.heap.size:=by omega
  have q2:G<wr.heap.size:=by omega
  have q3:U<wr.heap.size:=by omega
  have ak:=(hB.block V aq ap).trans HS.out;have o:=(hB.block G am an).trans HM.out;obtain⟨I,fS⟩:=qO ak;have ab:=hid hV;have aa:=hid hB;clear hV ak hB;by_cases aw:j<8
  ·rcases(show j=0∨j=1∨j=2∨j=3∨j=4∨j=5∨j=6∨j=7 by omega)with rfl|rfl|rfl|rfl|rfl|rfl|rfl|rfl
   ·have Y:=qR r 0;have sy:=qR r 1;have cx:wr.cell? ⟨G,qw r 0,none⟩=some (.int .u32 (wd M (qw r 0))):=(qs o _).trans (qC X Y);have cy:wr.cell? ⟨G,qw r 1,none⟩=some (.int .u32 (wd M (qw r 1))):=(qs o _).trans (qC X sy);have ad:wr.cell? ⟨V,0,none⟩=some (.int .i64 (qw r 0:Nat)):=I 0;have ac:wr.cell? ⟨V,1,none⟩=some (.int .i64 (qw r 1:Nat)):=I 1;clear o I;go_wp2_with fail
    refine qj (by dsimp only[List.dropLast]) (by rfl) (by rfl) (by kernel_rfl) (by kernel_rfl) (by kernel_rfl) (by kernel_rfl) ?_;repeat(go_big_quiet_step (fail))
    refine wpQuiet_nil ?_;intro _ J;obtain⟨Z,rfl⟩:=J;go_wp2_with fail
    refine(yL U (mixSmall.turns L M r 0) (qF Ql hL r 0) 0 4 8 12 (by decide) (by decide) (by decide) (by decide) (by decide) (by decide) (by decide) (by decide) (by decide) (by decide) _ _ Tv ((wr.alloc _).drewN Z) ((Bh _ _ _ (by omega)).trans ab.out)).mono ?_;rintro e3 w3 ⟨rfl,q,D⟩
    have H3:=hid q;have O:=hid (((aa.out.alloc _).drewN _).trans D);clear q D;go_wp2
    exact⟨⟨1,rfl,by decide,H3.out,O.out⟩,by simp[intOf]⟩
   ·have Y:=qR r 2;have sy:=qR r 3;have cx:wr.cell? ⟨G,qw r 2,none⟩=some (.int .u32 (wd M (qw r 2))):=(qs o _).trans (qC X Y);have cy:wr.cell? ⟨G,qw r 3,none⟩=some (.int .u32 (wd M (qw r 3))):=(qs o _).trans (qC X sy);have ad:wr.cell? ⟨V,2,none⟩=some (.int .i64 (qw r 2:Nat)):=I 2;have ac:wr.cell? ⟨V,3,none⟩=some (.int .i64 (qw r 3:Nat)):=I 3;clear o I;go_wp2_with fail
    refine qj (by dsimp only[List.dropLast]) (by rfl) (by rfl) (by kernel_rfl) (by kernel_rfl) (by kernel_rfl) (by kernel_rfl) ?_;repeat(go_big_quiet_step (fail))
    refine wpQuiet_nil ?_;intro _ J;obtain⟨Z,rfl⟩:=J;go_wp2_with fail
    refine(yL U (mixSmall.turns L M r 1) (qF Ql hL r 1) 1 5 9 13 (by decide) (by decide) (by decide) (by decide) (by decide) (by decide) (by decide) (by decide) (by decide) (by decide) _ _ Tv ((wr.alloc _).drewN Z) ((Bh _ _ _ (by omega)).trans ab.out)).mono ?_;rintro e3 w3 ⟨rfl,q,D⟩
    have H3:=hid q;have O:=hid (((aa.out.alloc _).drewN _).trans D);clear q D;go_wp2
    exact⟨⟨2,rfl,by decide,H3.out,O.out⟩,by simp[intOf]⟩
   ·have Y:=qR r 4;have sy:=qR r 5;have cx:wr.cell? ⟨G,qw r 4,none⟩=some (.int .u32 (wd M (qw r 4))):=(qs o _).trans (qC X Y);have cy:wr.cell? ⟨G,qw r 5,none⟩=some (.int .u32 (wd M (qw r 5))):=(qs o _).trans (qC X sy);have ad:wr.cell? ⟨V,4,none⟩=some (.int .i64 (qw r 4:Nat)):=I 4;have ac:wr.cell? ⟨V,5,none⟩=some (.int .i64 (qw r 5:Nat)):=I 5;clear o I;go_wp2_with fail
    refine qj (by dsimp only[List.dropLast]) (by rfl) (by rfl) (by kernel_rfl) (by kernel_rfl) (by kernel_rfl) (by kernel_rfl) ?_;repeat(go_big_quiet_step (fail))
    refine wpQuiet_nil ?_;intro _ J;obtain⟨Z,rfl⟩:=J;go_wp2_with fail
    refine(yL U (mixSmall.turns L M r 2) (qF Ql hL r 2) 2 6 10 14 (by decide) (by decide) (by decide) (by decide) (by decide) (by decide) (by decide) (by decide) (by decide) (by decide) _ _ Tv ((wr.alloc _).drewN Z) ((Bh _ _ _ (by omega)).trans ab.out)).mono ?_;rintro e3 w3 ⟨rfl,q,D⟩
    have H3:=hid q;have O:=hid (((aa.out.alloc _).drewN _).trans D);clear q D;go_wp2
    exact⟨⟨3,rfl,by decide,H3.out,O.out⟩,by simp[intOf]⟩
   ·have Y:=qR r 6;have sy:=qR r 7;have cx:wr.cell? ⟨G,qw r 6,none⟩=some (.int .u32 (wd M (qw r 6))):=(qs o _).trans (qC X Y);have cy:wr.cell? ⟨G,qw r 7,none⟩=some (.int .u32 (wd M (qw r 7))):=(qs o _).trans (qC X sy);have ad:wr.cell? ⟨V,6,none⟩=some (.int .i64 (qw r 6:Nat)):=I 6;have ac:wr.cell? ⟨V,7,none⟩=some (.int .i64 (qw r 7:Nat)):=I 7;clear o I;go_wp2_with fail
    refine qj (by dsimp only[List.dropLast]) (by rfl) (by rfl) (by kernel_rfl) (by kernel_rfl) (by kernel_rfl) (by kernel_rfl) ?_;repeat(go_big_quiet_step (fail))
    refine wpQuiet_nil ?_;intro _ J;obtain⟨Z,rfl⟩:=J;go_wp2_with fail
    refine(yL U (mixSmall.turns L M r 3) (qF Ql hL r 3) 3 7 11 15 (by decide) (by decide) (by decide) (by decide) (by decide) (by decide) (by decide) (by decide) (by decide) (by decide) _ _ Tv ((wr.alloc _).drewN Z) ((Bh _ _ _ (by omega)).trans ab.out)).mono ?_;rintro e3 w3 ⟨rfl,q,D⟩
    have H3:=hid q;have O:=hid (((aa.out.alloc _).drewN _).trans D);clear q D;go_wp2
    exact⟨⟨4,rfl,by decide,H3.out,O.out⟩,by simp[intOf]⟩
   ·have Y:=qR r 8;have sy:=qR r 9;have cx:wr.cell? ⟨G,qw r 8,none⟩=some (.int .u32 (wd M (qw r 8))):=(qs o _).trans (qC X Y);have cy:wr.cell? ⟨G,qw r 9,none⟩=some (.int .u32 (wd M (qw r 9))):=(qs o _).trans (qC X sy);have ad:wr.cell? ⟨V,8,none⟩=some (.int .i64 (qw r 8:Nat)):=I 8;have ac:wr.cell? ⟨V,9,none⟩=some (.int .i64 (qw r 9:Nat)):=I 9;clear o I;go_wp2_with fail
    refine qj (by dsimp only[List.dropLast]) (by rfl) (by rfl) (by kernel_rfl) (by kernel_rfl) (by kernel_rfl) (by kernel_rfl) ?_;repeat(go_big_quiet_step (fail))
    refine wpQuiet_nil ?_;intro _ J;obtain⟨Z,rfl⟩:=J;go_wp2_with fail
    refine(yL U (mixSmall.turns L M r 4) (qF Ql hL r 4) 0 5 10 15 (by decide) (by decide) (by decide) (by decide) (by decide) (by decide) (by decide) (by decide) (by decide) (by decide) _ _ Tv ((wr.alloc _).drewN Z) ((Bh _ _ _ (by omega)).trans ab.out)).mono ?_;rintro e3 w3 ⟨rfl,q,D⟩
    have H3:=hid q;have O:=hid (((aa.out.alloc _).drewN _).trans D);clear q D;go_wp2
    exact⟨⟨5,rfl,by decide,H3.out,O.out⟩,by simp[intOf]⟩
   ·have Y:=qR r 10;have sy:=qR r 11;have cx:wr.cell? ⟨G,qw r 10,none⟩=some (.int .u32 (wd M (qw r 10))):=(qs o _).trans (qC X Y);have cy:wr.cell? ⟨G,qw r 11,none⟩=some (.int .u32 (wd M (qw r 11))):=(qs o _).trans (qC X sy);have ad:wr.cell? ⟨V,10,none⟩=some (.int .i64 (qw r 10:Nat)):=I 10;have ac:wr.cell? ⟨V,11,none⟩=some (.int .i64 (qw r 11:Nat)):=I 11;clear o I;go_wp2_with fail
    refine qj (by dsimp only[List.dropLast]) (by rfl) (by rfl) (by kernel_rfl) (by kernel_rfl) (by kernel_rfl) (by kernel_rfl) ?_;repeat(go_big_quiet_step (fail))
    refine wpQuiet_nil ?_;intro _ J;obtain⟨Z,rfl⟩:=J;go_wp2_with fail
    refine(yL U (mixSmall.turns L M r 5) (qF Ql hL r 5) 1 6 11 12 (by decide) (by decide) (by decide) (by decide) (by decide) (by decide) (by decide) (by decide) (by decide) (by decide) _ _ Tv ((wr.alloc _).drewN Z) ((Bh _ _ _ (by omega)).trans ab.out)).mono ?_;rintro e3 w3 ⟨rfl,q,D⟩
    have H3:=hid q;have O:=hid (((aa.out.alloc _).drewN _).trans D);clear q D;go_wp2
    exact⟨⟨6,rfl,by decide,H3.out,O.out⟩,by simp[intOf]⟩
   ·have Y:=qR r 12;have sy:=qR r 13;have cx:wr.cell? ⟨G,qw r 12,none⟩=some (.int .u32 (wd M (qw r 12))):=(qs o _).trans (qC X Y);have cy:wr.cell? ⟨G,qw r 13,none⟩=some (.int .u32 (wd M (qw r 13))):=(qs o _).trans (qC X sy);have ad:wr.cell? ⟨V,12,none⟩=some (.int .i64 (qw r 12:Nat)):=I 12;have ac:wr.cell? ⟨V,13,none⟩=some (.int .i64 (qw r 13:Nat)):=I 13;clear o I;go_wp2_with fail
    refine qj (by dsimp only[List.dropLast]) (by rfl) (by rfl) (by kernel_rfl) (by kernel_rfl) (by kernel_rfl) (by kernel_rfl) ?_;repeat(go_big_quiet_step (fail))
    refine wpQuiet_nil ?_;intro _ J;obtain⟨Z,rfl⟩:=J;go_wp2_with fail
    refine(yL U (mixSmall.turns L M r 6) (qF Ql hL r 6) 2 7 8 13 (by decide) (by decide) (by decide) (by decide) (by decide) (by decide) (by decide) (by decide) (by decide) (by decide) _ _ Tv ((wr.alloc _).drewN Z) ((Bh _ _ _ (by omega)).trans ab.out)).mono ?_;rintro e3 w3 ⟨rfl,q,D⟩
    have H3:=hid q;have O:=hid (((aa.out.alloc _).drewN _).trans D);clear q D;go_wp2
    exact⟨⟨7,rfl,by decide,H3.out,O.out⟩,by simp[intOf]⟩
   ·have Y:=qR r 14;have sy:=qR r 15;have cx:wr.cell? ⟨G,qw r 14,none⟩=some (.int .u32 (wd M (qw r 14))):=(qs o _).trans (qC X Y);have cy:wr.cell? ⟨G,qw r 15,none⟩=some (.int .u32 (wd M (qw r 15))):=(qs o _).trans (qC X sy);have ad:wr.cell? ⟨V,14,none⟩=some (.int .i64 (qw r 14:Nat)):=I 14;have ac:wr.cell? ⟨V,15,none⟩=some (.int .i64 (qw r 15:Nat)):=I 15;clear o I;go_wp2_with fail
    refine qj (by dsimp only[List.dropLast]) (by rfl) (by rfl) (by kernel_rfl) (by kernel_rfl) (by kernel_rfl) (by kernel_rfl) ?_;repeat(go_big_quiet_step (fail))
    refine wpQuiet_nil ?_;intro _ J;obtain⟨Z,rfl⟩:=J;go_wp2_with fail
    refine(yL U (mixSmall.turns L M r 7) (qF Ql hL r 7) 3 4 9 14 (by decide) (by decide) (by decide) (by decide) (by decide) (by decide) (by decide) (by decide) (by decide) (by decide) _ _ Tv ((wr.alloc _).drewN Z) ((Bh _ _ _ (by omega)).trans ab.out)).mono ?_;rintro e3 w3 ⟨rfl,q,D⟩
    have H3:=hid q;have O:=hid (((aa.out.alloc _).drewN _).trans D);clear q D;go_wp2
    exact⟨⟨8,rfl,by decide,H3.out,O.out⟩,by simp[intOf]⟩
  ·obtain rfl:j=8:=by omega
   go_wp2
   exact bodyPost_end (results_none rfl _ _ _) rfl ⟨rfl,ab.out,(But.of_below' ai.out).trans aa.out⟩
end Go.Proofs.YthjoojnlnlmljaaGreat
