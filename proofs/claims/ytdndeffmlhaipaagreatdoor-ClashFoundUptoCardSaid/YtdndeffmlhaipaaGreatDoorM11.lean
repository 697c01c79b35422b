/- A round of the mixing, by the program, both kinds. No condition. -/
import Derived.Test.YtdndeffmlhaipaaGreatDoorM10
set_option linter.all false
set_option maxRecDepth 100000
set_option maxHeartbeats 8000000
namespace Go.Proofs.YtdndeffmlhaipaaGreatDoor
open Go.ChangeShapes Go.WideShapes Go.ChangeAt Go.RowKit Go.Joins
open Go.Lib (hid)
attribute [local go_sem] Oper.semAt_some
theorem yt {P:Program}{w:World}(t:TypeId)(cs:Array Value)(k:IntKind)(i:Int)(h:P.underlying t=some (.array (P.arrayLen t) (P.elem t))):
  (Instr.index t (.agg cs) (.int k i)).run P w=if 0≤i∧i<P.arrayLen t then((sizeOf (P.elem t)).run P w).andThen fun s w=>(part (P.elem t) cs (i.toNat*s)).run P w else(boundsPanic k i (P.arrayLen t) .index).run P w:=by
 simp only[Instr.index,Sem.run_bind,run_underlying h,asIntOf,Sem.run_pure,Result.andThen_ok];split<;>simp
attribute [local go_sem] yt
structure MixOk (K:MixK):Prop where
 wrap: ∀z,K.k.wrap z=z%2^K.n
 r2:K.r2≤K.n
 r1:K.r1≤K.n
 r3:K.r3≤K.n
 r4:K.r4≤K.n
theorem QD:MixOk mixBig:=⟨fun z=>IntKind.wrap_u64 z,by decide,by decide,by decide,by decide⟩
theorem qZ:MixOk mixSmall:=⟨fun z=>IntKind.wrap_u32 z,by decide,by decide,by decide,by decide⟩
theorem qbV {K:MixK}(hK:MixOk K){L:List Int}(hL:Words K.n 16 L)(a b c d:Nat)(x y:Int):Words K.n 16 (K.step L a b c d x y):=by
 unfold MixK.step;refine Words.set (Words.set (Words.set (Words.set hL ?_) ?_) ?_) ?_
 ·exact Zw _ _
 ·exact zd hK.r3 (qQ _ _ _ hK.wrap _ _)
 ·exact Zw _ _
 ·exact zd hK.r4 (qQ _ _ _ hK.wrap _ _)
theorem qD {K:MixK}(hK:MixOk K){L M:List Int}(hL:Words K.n 16 L)(r:Nat): ∀i,Words K.n 16 (K.turns L M r i)
 | 0=>hL
 | i+1=>qbV hK (qD hK hL r i) _ _ _ _ _ _
theorem yb {K:MixK}(hK:MixOk K){L M:List Int}(hL:Words K.n 16 L): ∀i,Words K.n 16 (K.rounds L M i)
 | 0=>hL
 | i+1=>qD hK (yb hK hL i) _ _
theorem JZ (r:Nat)(hr:r<12)(w:World):Calls Tryz.prog 152 #[.int .i64 r] w fun e w'=>e= .returned (.agg #[.int .i64 (qk r 0:Nat),.int .i64 (qk r 1:Nat),.int .i64 (qk r 2:Nat),.int .i64 (qk r 3:Nat),.int .i64 (qk r 4:Nat),.int .i64 (qk r 5:Nat),.int .i64 (qk r 6:Nat),.int .i64 (qk r 7:Nat),.int .i64 (qk r 8:Nat),.int .i64 (qk r 9:Nat),.int .i64 (qk r 10:Nat),.int .i64 (qk r 11:Nat),.int .i64 (qk r 12:Nat),.int .i64 (qk r 13:Nat),.int .i64 (qk r 14:Nat),.int .i64 (qk r 15:Nat)])∧Below w.heap.size w w':=by
 have hl: ∀r<12,[qk r 0,qk r 1,qk r 2,qk r 3,qk r 4,qk r 5,qk r 6,qk r 7,qk r 8,qk r 9,qk r 10,qk r 11,qk r 12,qk r 13,qk r 14,qk r 15]=Z0 r:=by decide+kernel
 refine(qc3 r hr w).mono ?_;rintro e w' ⟨rfl,hb⟩
 exact⟨by rw[←hl r hr];rfl,hb⟩
theorem qb7 (w:World):Calls Tryz.prog 153 #[] w fun e w'=>e= .returned (.agg #[.int .i64 0,.int .i64 4,.int .i64 8,.int .i64 12,.int .i64 1,.int .i64 5,.int .i64 9,.int .i64 13,.int .i64 2,.int .i64 6,.int .i64 10,.int .i64 14,.int .i64 3,.int .i64 7,.int .i64 11,.int .i64 15,.int .i64 0,.int .i64 5,.int .i64 10,.int .i64 15,.int .i64 1,.int .i64 6,.int .i64 11,.int .i64 12,.int .i64 2,.int .i64 7,.int .i64 8,.int .i64 13,.int .i64 3,.int .i64 4,.int .i64 9,.int .i64 14])∧Below w.heap.size w w':=by
 refine(qb8 w).mono ?_;rintro e w' ⟨rfl,hb⟩
 exact⟨rfl,hb⟩
theorem qaD (w:World):Calls Tryz.prog 155 #[] w fun e w'=>e= .returned (.agg Z3)∧Below w.heap.size w w':=by
 go_enter Tryz.func155,Tryz.ntmps155
 go_upto_region 1 with(fail)
 apply wp_region_lit
 refine wpList_buildTo rfl 238 _ rfl (some 1) rfl (Q9 (ze 0)) (by kernel_rfl) ?_;simp only[Act.put,Ls];refine wpList_buildTo rfl 238 _ rfl (some 2) rfl (Q9 (ze 1)) (by kernel_rfl) ?_;simp only[Act.put,Ls];refine wpList_buildTo rfl 238 _ rfl (some 3) rfl (Q9 (ze 2)) (by kernel_rfl) ?_;simp only[Act.put,Ls];refine wpList_buildTo rfl 238 _ rfl (some 4) rfl (Q9 (ze 3)) (by kernel_rfl) ?_;simp only[Act.put,Ls];refine wpList_buildTo rfl 238 _ rfl (some 5) rfl (Q9 (ze 4)) (by kernel_rfl) ?_;simp only[Act.put,Ls];refine wpList_buildTo rfl 238 _ rfl (some 6) rfl (Q9 (ze 5)) (by kernel_rfl) ?_;simp only[Act.put,Ls];refine wpList_buildTo rfl 238 _ rfl (some 7) rfl (Q9 (ze 6)) (by kernel_rfl) ?_;simp only[Act.put,Ls];refine wpList_buildTo rfl 238 _ rfl (some 8) rfl (Q9 (ze 7)) (by kernel_rfl) ?_;simp only[Act.put,Ls];refine wpList_buildTo rfl 239 _ rfl (some 9) rfl Z3 (by kernel_rfl) ?_;simp only[Act.put,Ls];refine wpList_store_row rfl 239 _ _ rfl w.heap.size Z3 rfl rfl 239 _ (Wn _ _) (by kernel_rfl) (by kernel_rfl) (by kernel_rfl) ?_;simp only[Act.put,Ls];go_wp2_with fail
 exact Bp (results_cell_row rfl _ _ _ _ _ _ _ rfl (setRow_heap _ _ _ _ _ _ (Wn _ _)) Tryz.underlying239 rfl (by kernel_rfl)) rfl ⟨rfl,((Below.refl w.heap.size w).alloc Nl _).trans ⟨rfl,rfl,rfl,by simp,fun g hg=>setRow_other _ _ _ _ (by omega)⟩⟩
theorem qaC (w:World):Calls Tryz.prog 155 #[] w fun e w'=>e= .returned (.agg #[.int .i64 0,.int .i64 4,.int .i64 8,.int .i64 12,.int .i64 1,.int .i64 5,.int .i64 9,.int .i64 13,.int .i64 2,.int .i64 6,.int .i64 10,.int .i64 14,.int .i64 3,.int .i64 7,.int .i64 11,.int .i64 15,.int .i64 0,.int .i64 5,.int .i64 10,.int .i64 15,.int .i64 1,.int .i64 6,.int .i64 11,.int .i64 12,.int .i64 2,.int .i64 7,.int .i64 8,.int .i64 13,.int .i64 3,.int .i64 4,.int .i64 9,.int .i64 14])∧Below w.heap.size w w':=by
 refine(qaD w).mono ?_;rintro e w' ⟨rfl,hb⟩
 exact⟨rfl,hb⟩
theorem Yp {w w1:World}(o:Obj)(hb:Below (w.alloc o).heap.size (w.alloc o) w1):Below w.heap.size w w1:=
 (Below.alloc Br Nl o).trans (hb.mono (by simp))
theorem But.of_below' {b:Nat}{w w':World}(h:Below w.heap.size w w'):But b w w':=⟨h.os,h.tape,h.output,h.size,fun g hg _=>h.block g hg⟩
theorem qbQ (bv bm:Nat)(hne:bm≠bv)(L M:List Int)(hL:Words 64 16 L)(hM:Words 64 16 M)(r:Nat)(hr:r<12)(Tv Tm:TypeId)(w:World)(hv:w.heap[bv]? =some (.cells (qm .u64 L) Tv (0,0)))(hm:w.heap[bm]? =some (.cells (qm .u64 M) Tm (0,0))):
  Calls Tryz.prog 139 #[.pointer (some ⟨bv,0,none⟩),.pointer (some ⟨bm,0,none⟩),.int .i64 r] w fun e w'=>e= .returned (.tuple #[])∧w'.heap[bv]? =some (.cells (qm .u64 (mixBig.round L M r)) Tv (0,0))∧But bv w w':=by
 have hvs:bv<w.heap.size:=(Ai hv).1;have hms:bm<w.heap.size:=(Ai hm).1;have HV:=hid hv;have HM:=hid hm;have HC:=hid (JZ r hr);clear hv hm;go_enter Tryz.func139,Tryz.ntmps139
 go_wp2_with fail
 refine(HC.out _).mono ?_;rintro e1 w1 ⟨rfl,hb1⟩;have HB1:=hid hb1;have hs1:=hb1.size;clear hb1 HC;go_wp2_with fail
 refine(qb7 _).mono ?_;rintro e2 w2 ⟨rfl,hb2⟩;obtain⟨bs,hbs⟩:=Ex w1.heap.size;have hS:w2.heap[bs]? =_:=(hb2.block bs (by simp;omega)).trans (qc w1 _ hbs.symm);have hV:w2.heap[bv]? =_:=(hb2.block bv (by simp;omega)).trans ((Bh _ _ _ (by omega)).trans ((HB1.out.block bv hvs).trans HV.out));have hM2:w2.heap[bm]? =_:=(hb2.block bm (by simp;omega)).trans ((Bh _ _ _ (by omega)).trans ((HB1.out.block bm hms).trans HM.out));have HB2:=hid (HB1.out.trans ((Yp _ hb2).mono hs1));have hs2:bs<w2.heap.size:=by have:=hb2.size;simp at this;omega
 have hvb:bs≠bv:=by omega
 rw[hbs];clear hb2 HB1 hbs hs1 HV HM;have HS:=hid hS;have HM:=hid hM2;have HV:=hid hV;clear hS hV hM2;have hms2:bm<w2.heap.size:=by have:=HB2.out.size;omega
 have hvs2:bv<w2.heap.size:=by have:=HB2.out.size;omega
 go_wp2_with fail
 go_loopw [12] (fun i wr=> ∃j:Nat,i= .int .i64 j∧j≤8∧wr.heap[bv]? =some (.cells (qm .u64 (mixBig.turns L M r j)) Tv (0,0))∧But bv w2 wr) (fun i _=>8 - (intOf i).toNat)
 case atStart=>exact⟨0,rfl,Nat.zero_le _,HV.out,But.refl _ _⟩
 case round=>
  obtain⟨j,rfl,hj,hV,hB⟩:=hrel;have hsz:=hB.size;have q1:bs<wr.heap.size:=by omega
  have q2:bm<wr.heap.size:=by omega
  have q3:bv<wr.heap.size:=by omega
  have hSr:=(hB.block bs hs2 hvb).trans HS.out;have hMr:=(hB.block bm hms2 hne).trans HM.out;obtain⟨cS,fS⟩:=Qd hSr;have HVr:=hid hV;have HBr:=hid hB;clear hV hSr hB;by_cases hlt:j<8
  ·rcases(show j=0∨j=1∨j=2∨j=3∨j=4∨j=5∨j=6∨j=7 by omega)with rfl|rfl|rfl|rfl|rfl|rfl|rfl|rfl
   ·have sx:=qE r 0;have sy:=qE r 1;have cx:wr.cell? ⟨bm,qk r 0,none⟩=some (.int .u64 (wd M (qk r 0))):=(qi hMr _).trans (qy hM sx);have cy:wr.cell? ⟨bm,qk r 1,none⟩=some (.int .u64 (wd M (qk r 1))):=(qi hMr _).trans (qy hM sy);have cs0:wr.cell? ⟨bs,0,none⟩=some (.int .i64 (qk r 0:Nat)):=cS 0;have cs1:wr.cell? ⟨bs,1,none⟩=some (.int .i64 (qk r 1:Nat)):=cS 1;clear hMr cS;go_wp2_with fail
    refine qe (by dsimp only[List.dropLast]) (by rfl) (by rfl) (by kernel_rfl) (by kernel_rfl) (by kernel_rfl) (by kernel_rfl) ?_;repeat(go_big_quiet_step (fail))
    refine wpQuiet_nil ?_;intro _ hw';obtain⟨n1,rfl⟩:=hw';go_wp2_with fail
    refine(QK bv (mixBig.turns L M r 0) (qD QD hL r 0) 0 4 8 12 (by decide) (by decide) (by decide) (by decide) (by decide) (by decide) (by decide) (by decide) (by decide) (by decide) _ _ Tv ((wr.alloc _).drewN n1) ((Bh _ _ _ (by omega)).trans HVr.out)).mono ?_;rintro e3 w3 ⟨rfl,hh3,hb3⟩
    have H3:=hid hh3;have HB3:=hid (((HBr.out.alloc _).drewN _).trans hb3);clear hh3 hb3;go_wp2
    exact⟨⟨1,rfl,by decide,H3.out,HB3.out⟩,by simp[intOf]⟩
   ·have sx:=qE r 2;have sy:=qE r 3;have cx:wr.cell? ⟨bm,qk r 2,none⟩=some (.int .u64 (wd M (qk r 2))):=(qi hMr _).trans (qy hM sx);have cy:wr.cell? ⟨bm,qk r 3,none⟩=some (.int .u64 (wd M (qk r 3))):=(qi hMr _).trans (qy hM sy);have cs0:wr.cell? ⟨bs,2,none⟩=some (.int .i64 (qk r 2:Nat)):=cS 2;have cs1:wr.cell? ⟨bs,3,none⟩=some (.int .i64 (qk r 3:Nat)):=cS 3;clear hMr cS;go_wp2_with fail
    refine qe (by dsimp only[List.dropLast]) (by rfl) (by rfl) (by kernel_rfl) (by kernel_rfl) (by kernel_rfl) (by kernel_rfl) ?_;repeat(go_big_quiet_step (fail))
    refine wpQuiet_nil ?_;intro _ hw';obtain⟨n1,rfl⟩:=hw';go_wp2_with fail
    refine(QK bv (mixBig.turns L M r 1) (qD QD hL r 1) 1 5 9 13 (by decide) (by decide) (by decide) (by decide) (by decide) (by decide) (by decide) (by decide) (by decide) (by decide) _ _ Tv ((wr.alloc _).drewN n1) ((Bh _ _ _ (by omega)).trans HVr.out)).mono ?_;rintro e3 w3 ⟨rfl,hh3,hb3⟩
    have H3:=hid hh3;have HB3:=hid (((HBr.out.alloc _).drewN _).trans hb3);clear hh3 hb3;go_wp2
    exact⟨⟨2,rfl,by decide,H3.out,HB3.out⟩,by simp[intOf]⟩
   ·have sx:=qE r 4;have sy:=qE r 5;have cx:wr.cell? ⟨bm,qk r 4,none⟩=some (.int .u64 (wd M (qk r 4))):=(qi hMr _).trans (qy hM sx);have cy:wr.cell? ⟨bm,qk r 5,none⟩=some (.int .u64 (wd M (qk r 5))):=(qi hMr _).trans (qy hM sy);have cs0:wr.cell? ⟨bs,4,none⟩=some (.int .i64 (qk r 4:Nat)):=cS 4;have cs1:wr.cell? ⟨bs,5,none⟩=some (.int .i64 (qk r 5:Nat)):=cS 5;clear hMr cS;go_wp2_with fail
    refine qe (by dsimp only[List.dropLast]) (by rfl) (by rfl) (by kernel_rfl) (by kernel_rfl) (by kernel_rfl) (by kernel_rfl) ?_;repeat(go_big_quiet_step (fail))
    refine wpQuiet_nil ?_;intro _ hw';obtain⟨n1,rfl⟩:=hw';go_wp2_with fail
    refine(QK bv (mixBig.turns L M r 2) (qD QD hL r 2) 2 6 10 14 (by decide) (by decide) (by decide) (by decide) (by decide) (by decide) (by decide) (by decide) (by decide) (by decide) _ _ Tv ((wr.alloc _).drewN n1) ((Bh _ _ _ (by omega)).trans HVr.out)).mono ?_;rintro e3 w3 ⟨rfl,hh3,hb3⟩
    have H3:=hid hh3;have HB3:=hid (((HBr.out.alloc _).drewN _).trans hb3);clear hh3 hb3;go_wp2
    exact⟨⟨3,rfl,by decide,H3.out,HB3.out⟩,by simp[intOf]⟩
   ·have sx:=qE r 6;have sy:=qE r 7;have cx:wr.cell? ⟨bm,qk r 6,none⟩=some (.int .u64 (wd M (qk r 6))):=(qi hMr _).trans (qy hM sx);have cy:wr.cell? ⟨bm,qk r 7,none⟩=some (.int .u64 (wd M (qk r 7))):=(qi hMr _).trans (qy hM sy);have cs0:wr.cell? ⟨bs,6,none⟩=some (.int .i64 (qk r 6:Nat)):=cS 6;have cs1:wr.cell? ⟨bs,7,none⟩=some (.int .i64 (qk r 7:Nat)):=cS 7;clear hMr cS;go_wp2_with fail
    refine qe (by dsimp only[List.dropLast]) (by rfl) (by rfl) (by kernel_rfl) (by kernel_rfl) (by kernel_rfl) (by kernel_rfl) ?_;repeat(go_big_quiet_step (fail))
    refine wpQuiet_nil ?_;intro _ hw';obtain⟨n1,rfl⟩:=hw';go_wp2_with fail
    refine(QK bv (mixBig.turns L M r 3) (qD QD hL r 3) 3 7 11 15 (by decide) (by decide) (by decide) (by decide) (by decide) (by decide) (by decide) (by decide) (by decide) (by decide) _ _ Tv ((wr.alloc _).drewN n1) ((Bh _ _ _ (by omega)).trans HVr.out)).mono ?_;rintro e3 w3 ⟨rfl,hh3,hb3⟩
    have H3:=hid hh3;have HB3:=hid (((HBr.out.alloc _).drewN _).trans hb3);clear hh3 hb3;go_wp2
    exact⟨⟨4,rfl,by decide,H3.out,HB3.out⟩,by simp[intOf]⟩
   ·have sx:=qE r 8;have sy:=qE r 9;have cx:wr.cell? ⟨bm,qk r 8,none⟩=some (.int .u64 (wd M (qk r 8))):=(qi hMr _).trans (qy hM sx);have cy:wr.cell? ⟨bm,qk r 9,none⟩=some (.int .u64 (wd M (qk r 9))):=(qi hMr _).trans (qy hM sy);have cs0:wr.cell? ⟨bs,8,none⟩=some (.int .i64 (qk r 8:Nat)):=cS 8;have cs1:wr.cell? ⟨bs,9,none⟩=some (.int .i64 (qk r 9:Nat)):=cS 9;clear hMr cS;go_wp2_with fail
    refine qe (by dsimp only[List.dropLast]) (by rfl) (by rfl) (by kernel_rfl) (by kernel_rfl) (by kernel_rfl) (by kernel_rfl) ?_;repeat(go_big_quiet_step (fail))
    refine wpQuiet_nil ?_;intro _ hw';obtain⟨n1,rfl⟩:=hw';go_wp2_with fail
    refine(QK bv (mixBig.turns L M r 4) (qD QD hL r 4) 0 5 10 15 (by decide) (by decide) (by decide) (by decide) (by decide) (by decide) (by decide) (by decide) (by decide) (by decide) _ _ Tv ((wr.alloc _).drewN n1) ((Bh _ _ _ (by omega)).trans HVr.out)).mono ?_;rintro e3 w3 ⟨rfl,hh3,hb3⟩
    have H3:=hid hh3;have HB3:=hid (((HBr.out.alloc _).drewN _).trans hb3);clear hh3 hb3;go_wp2
    exact⟨⟨5,rfl,by decide,H3.out,HB3.out⟩,by simp[intOf]⟩
   ·have sx:=qE r 10;have sy:=qE r 11;have cx:wr.cell? ⟨bm,qk r 10,none⟩=some (.int .u64 (wd M (qk r 10))):=(qi hMr _).trans (qy hM sx);have cy:wr.cell? ⟨bm,qk r 11,none⟩=some (.int .u64 (wd M (qk r 11))):=(qi hMr _).trans (qy hM sy);have cs0:wr.cell? ⟨bs,10,none⟩=some (.int .i64 (qk r 10:Nat)):=cS 10;have cs1:wr.cell? ⟨bs,11,none⟩=some (.int .i64 (qk r 11:Nat)):=cS 11;clear hMr cS;go_wp2_with fail
    refine qe (by dsimp only[List.dropLast]) (by rfl) (by rfl) (by kernel_rfl) (by kernel_rfl) (by kernel_rfl) (by kernel_rfl) ?_;repeat(go_big_quiet_step (fail))
    refine wpQuiet_nil ?_;intro _ hw';obtain⟨n1,rfl⟩:=hw';go_wp2_with fail
    refine(QK bv (mixBig.turns L M r 5) (qD QD hL r 5) 1 6 11 12 (by decide) (by decide) (by decide) (by decide) (by decide) (by decide) (by decide) (by decide) (by decide) (by decide) _ _ Tv ((wr.alloc _).drewN n1) ((Bh _ _ _ (by omega)).trans HVr.out)).mono ?_;rintro e3 w3 ⟨rfl,hh3,hb3⟩
    have H3:=hid hh3;have HB3:=hid (((HBr.out.alloc _).drewN _).trans hb3);clear hh3 hb3;go_wp2
    exact⟨⟨6,rfl,by decide,H3.out,HB3.out⟩,by simp[intOf]⟩
   ·have sx:=qE r 12;have sy:=qE r 13;have cx:wr.cell? ⟨bm,qk r 12,none⟩=some (.int .u64 (wd M (qk r 12))):=(qi hMr _).trans (qy hM sx);have cy:wr.cell? ⟨bm,qk r 13,none⟩=some (.int .u64 (wd M (qk r 13))):=(qi hMr _).trans (qy hM sy);have cs0:wr.cell? ⟨bs,12,none⟩=some (.int .i64 (qk r 12:Nat)):=cS 12;have cs1:wr.cell? ⟨bs,13,none⟩=some (.int .i64 (qk r 13:Nat)):=cS 13;clear hMr cS;go_wp2_with fail
    refine qe (by dsimp only[List.dropLast]) (by rfl) (by rfl) (by kernel_rfl) (by kernel_rfl) (by kernel_rfl) (by kernel_rfl) ?_;repeat(go_big_quiet_step (fail))
    refine wpQuiet_nil ?_;intro _ hw';obtain⟨n1,rfl⟩:=hw';go_wp2_with fail
    refine(QK bv (mixBig.turns L M r 6) (qD QD hL r 6) 2 7 8 13 (by decide) (by decide) (by decide) (by decide) (by decide) (by decide) (by decide) (by decide) (by decide) (by decide) _ _ Tv ((wr.alloc _).drewN n1) ((Bh _ _ _ (by omega)).trans HVr.out)).mono ?_;rintro e3 w3 ⟨rfl,hh3,hb3⟩
    have H3:=hid hh3;have HB3:=hid (((HBr.out.alloc _).drewN _).trans hb3);clear hh3 hb3;go_wp2
    exact⟨⟨7,rfl,by decide,H3.out,HB3.out⟩,by simp[intOf]⟩
   ·have sx:=qE r 14;have sy:=qE r 15;have cx:wr.cell? ⟨bm,qk r 14,none⟩=some (.int .u64 (wd M (qk r 14))):=(qi hMr _).trans (qy hM sx);have cy:wr.cell? ⟨bm,qk r 15,none⟩=some (.int .u64 (wd M (qk r 15))):=(qi hMr _).trans (qy hM sy);have cs0:wr.cell? ⟨bs,14,none⟩=some (.int .i64 (qk r 14:Nat)):=cS 14;have cs1:wr.cell? ⟨bs,15,none⟩=some (.int .i64 (qk r 15:Nat)):=cS 15;clear hMr cS;go_wp2_with fail
    refine qe (by dsimp only[List.dropLast]) (by rfl) (by rfl) (by kernel_rfl) (by kernel_rfl) (by kernel_rfl) (by kernel_rfl) ?_;repeat(go_big_quiet_step (fail))
    refine wpQuiet_nil ?_;intro _ hw';obtain⟨n1,rfl⟩:=hw';go_wp2_with fail
    refine(QK bv (mixBig.turns L M r 7) (qD QD hL r 7) 3 4 9 14 (by decide) (by decide) (by decide) (by decide) (by decide) (by decide) (by decide) (by decide) (by decide) (by decide) _ _ Tv ((wr.alloc _).drewN n1) ((Bh _ _ _ (by omega)).trans HVr.out)).mono ?_;rintro e3 w3 ⟨rfl,hh3,hb3⟩
    have H3:=hid hh3;have HB3:=hid (((HBr.out.alloc _).drewN _).trans hb3);clear hh3 hb3;go_wp2
    exact⟨⟨8,rfl,by decide,H3.out,HB3.out⟩,by simp[intOf]⟩
  ·obtain rfl:j=8:=by omega
   go_wp2
   exact bodyPost_end (results_none rfl _ _ _) rfl ⟨rfl,HVr.out,(But.of_below' HB2.out).trans HBr.out⟩
theorem qbR (bv bm:Nat)(hne:bm≠bv)(L M:List Int)(hL:Words 32 16 L)(hM:Words 32 16 M)(r:Nat)(hr:r<12)(Tv Tm:TypeId)(w:World)(hv:w.heap[bv]? =some (.cells (qm .u32 L) Tv (0,0)))(hm:w.heap[bm]? =some (.cells (qm .u32 M) Tm (0,0))):
  Calls Tryz.prog 142 #[.pointer (some ⟨bv,0,none⟩),.pointer (some ⟨bm,0,none⟩),.int .i64 r] w fun e w'=>e= .returned (.tuple #[])∧w'.heap[bv]? =some (.cells (qm .u32 (mixSmall.round L M r)) Tv (0,0))∧But bv w w':=by
 have hvs:bv<w.heap.size:=(Ai hv).1;have hms:bm<w.heap.size:=(Ai hm).1;have HV:=hid hv;have HM:=hid hm;have HC:=hid (JZ r hr);clear hv hm;go_enter Tryz.func142,Tryz.ntmps142
 go_wp2_with fail
 refine(HC.out _).mono ?_;rintro e1 w1 ⟨rfl,hb1⟩;have HB1:=hid hb1;have hs1:=hb1.size;clear hb1 HC;go_wp2_with fail
 refine(qaC _).mono ?_;rintro e2 w2 ⟨rfl,hb2⟩;obtain⟨bs,hbs⟩:=Ex w1.heap.size;have hS:w2.heap[bs]? =_:=(hb2.block bs (by simp;omega)).trans (qc w1 _ hbs.symm);have hV:w2.heap[bv]? =_:=(hb2.block bv (by simp;omega)).trans ((Bh _ _ _ (by omega)).trans ((HB1.out.block bv hvs).trans HV.out));have hM2:w2.heap[bm]? =_:=(hb2.block bm (by simp;omega)).trans ((Bh _ _ _ (by omega)).trans ((HB1.out.block bm hms).trans HM.out));have HB2:=hid (HB1.out.trans ((Yp _ hb2).mono hs1));have hs2:bs<w2.heap.size:=by have:=hb2.size;simp at this;omega
 have hvb:bs≠bv:=by omega
 rw[hbs];clear hb2 HB1 hbs hs1 HV HM;have HS:=hid hS;have HM:=hid hM2;have HV:=hid hV;clear hS hV hM2;have hms2:bm<w2.heap.size:=by have:=HB2.out.size;omega
 have hvs2:bv<w2.heap.size:=by have:=HB2.out.size;omega
 go_wp2_with fail
 go_loopw [12] (fun i wr=> ∃j:Nat,i= .int .i64 j∧j≤8∧wr.heap[bv]? =some (.cells (qm .u32 (mixSmall.turns L M r j)) Tv (0,0))∧But bv w2 wr) (fun i _=>8 - (intOf i).toNat)
 case atStart=>exact⟨0,rfl,Nat.zero_le _,HV.out,But.refl _ _⟩
 case round=>
  obtain⟨j,rfl,hj,hV,hB⟩:=hrel;have hsz:=hB.size;have q1:bs<wr.heap.size:=by omega
  have q2:bm<wr.heap.size:=by omega
  have q3:bv<wr.heap.size:=by omega
  have hSr:=(hB.block bs hs2 hvb).trans HS.out;have hMr:=(hB.block bm hms2 hne).trans HM.out;obtain⟨cS,fS⟩:=Qd hSr;have HVr:=hid hV;have HBr:=hid hB;clear hV hSr hB;by_cases hlt:j<8
  ·rcases(show j=0∨j=1∨j=2∨j=3∨j=4∨j=5∨j=6∨j=7 by omega)with rfl|rfl|rfl|rfl|rfl|rfl|rfl|rfl
   ·have sx:=qE r 0;have sy:=qE r 1;have cx:wr.cell? ⟨bm,qk r 0,none⟩=some (.int .u32 (wd M (qk r 0))):=(qi hMr _).trans (qy hM sx);have cy:wr.cell? ⟨bm,qk r 1,none⟩=some (.int .u32 (wd M (qk r 1))):=(qi hMr _).trans (qy hM sy);have cs0:wr.cell? ⟨bs,0,none⟩=some (.int .i64 (qk r 0:Nat)):=cS 0;have cs1:wr.cell? ⟨bs,1,none⟩=some (.int .i64 (qk r 1:Nat)):=cS 1;clear hMr cS;go_wp2_with fail
    refine qe (by dsimp only[List.dropLast]) (by rfl) (by rfl) (by kernel_rfl) (by kernel_rfl) (by kernel_rfl) (by kernel_rfl) ?_;repeat(go_big_quiet_step (fail))
    refine wpQuiet_nil ?_;intro _ hw';obtain⟨n1,rfl⟩:=hw';go_wp2_with fail
    refine(QL bv (mixSmall.turns L M r 0) (qD qZ hL r 0) 0 4 8 12 (by decide) (by decide) (by decide) (by decide) (by decide) (by decide) (by decide) (by decide) (by decide) (by decide) _ _ Tv ((wr.alloc _).drewN n1) ((Bh _ _ _ (by omega)).trans HVr.out)).mono ?_;rintro e3 w3 ⟨rfl,hh3,hb3⟩
    have H3:=hid hh3;have HB3:=hid (((HBr.out.alloc _).drewN _).trans hb3);clear hh3 hb3;go_wp2
    exact⟨⟨1,rfl,by decide,H3.out,HB3.out⟩,by simp[intOf]⟩
   ·have sx:=qE r 2;have sy:=qE r 3;have cx:wr.cell? ⟨bm,qk r 2,none⟩=some (.int .u32 (wd M (qk r 2))):=(qi hMr _).trans (qy hM sx);have cy:wr.cell? ⟨bm,qk r 3,none⟩=some (.int .u32 (wd M (qk r 3))):=(qi hMr _).trans (qy hM sy);have cs0:wr.cell? ⟨bs,2,none⟩=some (.int .i64 (qk r 2:Nat)):=cS 2;have cs1:wr.cell? ⟨bs,3,none⟩=some (.int .i64 (qk r 3:Nat)):=cS 3;clear hMr cS;go_wp2_with fail
    refine qe (by dsimp only[List.dropLast]) (by rfl) (by rfl) (by kernel_rfl) (by kernel_rfl) (by kernel_rfl) (by kernel_rfl) ?_;repeat(go_big_quiet_step (fail))
    refine wpQuiet_nil ?_;intro _ hw';obtain⟨n1,rfl⟩:=hw';go_wp2_with fail
    refine(QL bv (mixSmall.turns L M r 1) (qD qZ hL r 1) 1 5 9 13 (by decide) (by decide) (by decide) (by decide) (by decide) (by decide) (by decide) (by decide) (by decide) (by decide) _ _ Tv ((wr.alloc _).drewN n1) ((Bh _ _ _ (by omega)).trans HVr.out)).mono ?_;rintro e3 w3 ⟨rfl,hh3,hb3⟩
    have H3:=hid hh3;have HB3:=hid (((HBr.out.alloc _).drewN _).trans hb3);clear hh3 hb3;go_wp2
    exact⟨⟨2,rfl,by decide,H3.out,HB3.out⟩,by simp[intOf]⟩
   ·have sx:=qE r 4;have sy:=qE r 5;have cx:wr.cell? ⟨bm,qk r 4,none⟩=some (.int .u32 (wd M (qk r 4))):=(qi hMr _).trans (qy hM sx);have cy:wr.cell? ⟨bm,qk r 5,none⟩=some (.int .u32 (wd M (qk r 5))):=(qi hMr _).trans (qy hM sy);have cs0:wr.cell? ⟨bs,4,none⟩=some (.int .i64 (qk r 4:Nat)):=cS 4;have cs1:wr.cell? ⟨bs,5,none⟩=some (.int .i64 (qk r 5:Nat)):=cS 5;clear hMr cS;go_wp2_with fail
    refine qe (by dsimp only[List.dropLast]) (by rfl) (by rfl) (by kernel_rfl) (by kernel_rfl) (by kernel_rfl) (by kernel_rfl) ?_;repeat(go_big_quiet_step (fail))
    refine wpQuiet_nil ?_;intro _ hw';obtain⟨n1,rfl⟩:=hw';go_wp2_with fail
    refine(QL bv (mixSmall.turns L M r 2) (qD qZ hL r 2) 2 6 10 14 (by decide) (by decide) (by decide) (by decide) (by decide) (by decide) (by decide) (by decide) (by decide) (by decide) _ _ Tv ((wr.alloc _).drewN n1) ((Bh _ _ _ (by omega)).trans HVr.out)).mono ?_;rintro e3 w3 ⟨rfl,hh3,hb3⟩
    have H3:=hid hh3;have HB3:=hid (((HBr.out.alloc _).drewN _).trans hb3);clear hh3 hb3;go_wp2
    exact⟨⟨3,rfl,by decide,H3.out,HB3.out⟩,by simp[intOf]⟩
   ·have sx:=qE r 6;have sy:=qE r 7;have cx:wr.cell? ⟨bm,qk r 6,none⟩=some (.int .u32 (wd M (qk r 6))):=(qi hMr _).trans (qy hM sx);have cy:wr.cell? ⟨bm,qk r 7,none⟩=some (.int .u32 (wd M (qk r 7))):=(qi hMr _).trans (qy hM sy);have cs0:wr.cell? ⟨bs,6,none⟩=some (.int .i64 (qk r 6:Nat)):=cS 6;have cs1:wr.cell? ⟨bs,7,none⟩=some (.int .i64 (qk r 7:Nat)):=cS 7;clear hMr cS;go_wp2_with fail
    refine qe (by dsimp only[List.dropLast]) (by rfl) (by rfl) (by kernel_rfl) (by kernel_rfl) (by kernel_rfl) (by kernel_rfl) ?_;repeat(go_big_quiet_step (fail))
    refine wpQuiet_nil ?_;intro _ hw';obtain⟨n1,rfl⟩:=hw';go_wp2_with fail
    refine(QL bv (mixSmall.turns L M r 3) (qD qZ hL r 3) 3 7 11 15 (by decide) (by decide) (by decide) (by decide) (by decide) (by decide) (by decide) (by decide) (by decide) (by decide) _ _ Tv ((wr.alloc _).drewN n1) ((Bh _ _ _ (by omega)).trans HVr.out)).mono ?_;rintro e3 w3 ⟨rfl,hh3,hb3⟩
    have H3:=hid hh3;have HB3:=hid (((HBr.out.alloc _).drewN _).trans hb3);clear hh3 hb3;go_wp2
    exact⟨⟨4,rfl,by decide,H3.out,HB3.out⟩,by simp[intOf]⟩
   ·have sx:=qE r 8;have sy:=qE r 9;have cx:wr.cell? ⟨bm,qk r 8,none⟩=some (.int .u32 (wd M (qk r 8))):=(qi hMr _).trans (qy hM sx);have cy:wr.cell? ⟨bm,qk r 9,none⟩=some (.int .u32 (wd M (qk r 9))):=(qi hMr _).trans (qy hM sy);have cs0:wr.cell? ⟨bs,8,none⟩=some (.int .i64 (qk r 8:Nat)):=cS 8;have cs1:wr.cell? ⟨bs,9,none⟩=some (.int .i64 (qk r 9:Nat)):=cS 9;clear hMr cS;go_wp2_with fail
    refine qe (by dsimp only[List.dropLast]) (by rfl) (by rfl) (by kernel_rfl) (by kernel_rfl) (by kernel_rfl) (by kernel_rfl) ?_;repeat(go_big_quiet_step (fail))
    refine wpQuiet_nil ?_;intro _ hw';obtain⟨n1,rfl⟩:=hw';go_wp2_with fail
    refine(QL bv (mixSmall.turns L M r 4) (qD qZ hL r 4) 0 5 10 15 (by decide) (by decide) (by decide) (by decide) (by decide) (by decide) (by decide) (by decide) (by decide) (by decide) _ _ Tv ((wr.alloc _).drewN n1) ((Bh _ _ _ (by omega)).trans HVr.out)).mono ?_;rintro e3 w3 ⟨rfl,hh3,hb3⟩
    have H3:=hid hh3;have HB3:=hid (((HBr.out.alloc _).drewN _).trans hb3);clear hh3 hb3;go_wp2
    exact⟨⟨5,rfl,by decide,H3.out,HB3.out⟩,by simp[intOf]⟩
   ·have sx:=qE r 10;have sy:=qE r 11;have cx:wr.cell? ⟨bm,qk r 10,none⟩=some (.int .u32 (wd M (qk r 10))):=(qi hMr _).trans (qy hM sx);have cy:wr.cell? ⟨bm,qk r 11,none⟩=some (.int .u32 (wd M (qk r 11))):=(qi hMr _).trans (qy hM sy);have cs0:wr.cell? ⟨bs,10,none⟩=some (.int .i64 (qk r 10:Nat)):=cS 10;have cs1:wr.cell? ⟨bs,11,none⟩=some (.int .i64 (qk r 11:Nat)):=cS 11;clear hMr cS;go_wp2_with fail
    refine qe (by dsimp only[List.dropLast]) (by rfl) (by rfl) (by kernel_rfl) (by kernel_rfl) (by kernel_rfl) (by kernel_rfl) ?_;repeat(go_big_quiet_step (fail))
    refine wpQuiet_nil ?_;intro _ hw';obtain⟨n1,rfl⟩:=hw';go_wp2_with fail
    refine(QL bv (mixSmall.turns L M r 5) (qD qZ hL r 5) 1 6 11 12 (by decide) (by decide) (by decide) (by decide) (by decide) (by decide) (by decide) (by decide) (by decide) (by decide) _ _ Tv ((wr.alloc _).drewN n1) ((Bh _ _ _ (by omega)).trans HVr.out)).mono ?_;rintro e3 w3 ⟨rfl,hh3,hb3⟩
    have H3:=hid hh3;have HB3:=hid (((HBr.out.alloc _).drewN _).trans hb3);clear hh3 hb3;go_wp2
    exact⟨⟨6,rfl,by decide,H3.out,HB3.out⟩,by simp[intOf]⟩
   ·have sx:=qE r 12;have sy:=qE r 13;have cx:wr.cell? ⟨bm,qk r 12,none⟩=some (.int .u32 (wd M (qk r 12))):=(qi hMr _).trans (qy hM sx);have cy:wr.cell? ⟨bm,qk r 13,none⟩=some (.int .u32 (wd M (qk r 13))):=(qi hMr _).trans (qy hM sy);have cs0:wr.cell? ⟨bs,12,none⟩=some (.int .i64 (qk r 12:Nat)):=cS 12;have cs1:wr.cell? ⟨bs,13,none⟩=some (.int .i64 (qk r 13:Nat)):=cS 13;clear hMr cS;go_wp2_with fail
    refine qe (by dsimp only[List.dropLast]) (by rfl) (by rfl) (by kernel_rfl) (by kernel_rfl) (by kernel_rfl) (by kernel_rfl) ?_;repeat(go_big_quiet_step (fail))
    refine wpQuiet_nil ?_;intro _ hw';obtain⟨n1,rfl⟩:=hw';go_wp2_with fail
    refine(QL bv (mixSmall.turns L M r 6) (qD qZ hL r 6) 2 7 8 13 (by decide) (by decide) (by decide) (by decide) (by decide) (by decide) (by decide) (by decide) (by decide) (by decide) _ _ Tv ((wr.alloc _).drewN n1) ((Bh _ _ _ (by omega)).trans HVr.out)).mono ?_;rintro e3 w3 ⟨rfl,hh3,hb3⟩
    have H3:=hid hh3;have HB3:=hid (((HBr.out.alloc _).drewN _).trans hb3);clear hh3 hb3;go_wp2
    exact⟨⟨7,rfl,by decide,H3.out,HB3.out⟩,by simp[intOf]⟩
   ·have sx:=qE r 14;have sy:=qE r 15;have cx:wr.cell? ⟨bm,qk r 14,none⟩=some (.int .u32 (wd M (qk r 14))):=(qi hMr _).trans (qy hM sx);have cy:wr.cell? ⟨bm,qk r 15,none⟩=some (.int .u32 (wd M (qk r 15))):=(qi hMr _).trans (qy hM sy);have cs0:wr.cell? ⟨bs,14,none⟩=some (.int .i64 (qk r 14:Nat)):=cS 14;have cs1:wr.cell? ⟨bs,15,none⟩=some (.int .i64 (qk r 15:Nat)):=cS 15;clear hMr cS;go_wp2_with fail
    refine qe (by dsimp only[List.dropLast]) (by rfl) (by rfl) (by kernel_rfl) (by kernel_rfl) (by kernel_rfl) (by kernel_rfl) ?_;repeat(go_big_quiet_step (fail))
    refine wpQuiet_nil ?_;intro _ hw';obtain⟨n1,rfl⟩:=hw';go_wp2_with fail
    refine(QL bv (mixSmall.turns L M r 7) (qD qZ hL r 7) 3 4 9 14 (by decide) (by decide) (by decide) (by decide) (by decide) (by decide) (by decide) (by decide) (by decide) (by decide) _ _ Tv ((wr.alloc _).drewN n1) ((Bh _ _ _ (by omega)).trans HVr.out)).mono ?_;rintro e3 w3 ⟨rfl,hh3,hb3⟩
    have H3:=hid hh3;have HB3:=hid (((HBr.out.alloc _).drewN _).trans hb3);clear hh3 hb3;go_wp2
    exact⟨⟨8,rfl,by decide,H3.out,HB3.out⟩,by simp[intOf]⟩
  ·obtain rfl:j=8:=by omega
   go_wp2
   exact bodyPost_end (results_none rfl _ _ _) rfl ⟨rfl,HVr.out,(But.of_below' HB2.out).trans HBr.out⟩
end Go.Proofs.YtdndeffmlhaipaaGreatDoor
