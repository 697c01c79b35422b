/- A step of the big mixing, by the program: it works on an array in memory. No condition. -/
import Derived.Test.YtdndeffmlhaipaaGreatDoorM07
import Derived.Test.YtdndeffmlhaipaaGreatDoorM08
set_option linter.all false
set_option maxRecDepth 100000
set_option maxHeartbeats 8000000
namespace Go.Proofs.YtdndeffmlhaipaaGreatDoor
open Go.ChangeShapes Go.WideShapes Go.ChangeAt Go.RowKit Go.Joins
open Go.Lib (hid)
attribute [local go_sem] Oper.semAt_some
theorem qi {W:World}{b:Nat}{c:Array Value}{T:TypeId}{fr:Nat×Nat}(h:W.heap[b]? =some (.cells c T fr))(i:Nat):W.cell? ⟨b,i,none⟩=c[i]? :=by simp[World.cell?,h]
theorem Qd {W:World}{b:Nat}{cs:Array Value}{T:TypeId}(h:W.heap[b]? =some (Obj.cells cs T (0,0))):(∀o,W.cell? ⟨b,o,none⟩=cs[o]?)∧(∀o,W.frozen? ⟨b,o,none⟩=false):=
 ⟨fun o=>qi h o,fun o=>by simp[World.frozen?,h]⟩
structure But (b:Nat)(w w':World):Prop where
 os:w'.os=w.os
 tape:w'.tape=w.tape
 output:w'.output=w.output
 size:w.heap.size≤w'.heap.size
 block: ∀g,g<w.heap.size→g≠b→w'.heap[g]? =w.heap[g]?
namespace But
variable {b:Nat} {w w' w'':World}
theorem refl (b:Nat)(w:World):But b w w:=⟨rfl,rfl,rfl,Nat.le_refl _,fun _ _ _=>rfl⟩
theorem trans (h:But b w w')(k:But b w' w''):But b w w'':=
 ⟨k.os.trans h.os,k.tape.trans h.tape,k.output.trans h.output,Nat.le_trans h.size k.size,fun g hg hb=>(k.block g (Nat.lt_of_lt_of_le hg h.size) hb).trans (h.block g hg hb)⟩
theorem below {n:Nat}(h:But b w w')(hn:n≤b)(hs:n≤w.heap.size):Below n w w':=⟨h.os,h.tape,h.output,h.size,fun g hg=>h.block g (by omega) (by omega)⟩
theorem of_below (h:Below w.heap.size w w'):But b w w':=⟨h.os,h.tape,h.output,h.size,fun g hg _=>h.block g hg⟩
theorem set (o:Nat)(v:Value)(h:But b w w'):But b w (w'.setCell ⟨b,o,none⟩ v):=
 h.trans ⟨rfl,rfl,rfl,by simp,fun g _ hb=>Below.heap_setCell _ _ _ _ hb⟩
theorem alloc (o:Obj)(h:But b w w'):But b w (w'.alloc o):=h.trans (of_below (Br.alloc Nl _))
theorem drewN (n:Nat)(h:But b w w'):But b w (w'.drewN n):=h.trans ⟨rfl,rfl,rfl,Nat.le_refl _,fun _ _ _=>rfl⟩
end But
def qm (k:IntKind)(L:List Int):Array Value:=(L.map fun z=>Value.int k z).toArray
theorem qy {k:IntKind}{N n:Nat}{L:List Int}(h:Words N n L){i:Nat}(hi:i<n):(qm k L)[i]? =some (.int k (wd L i)):=by
 simp[qm,wd,Lg,List.getElem?_eq_getElem (show i<L.length by rw[h.1];exact hi)]
theorem QX {k:IntKind}{L:List Int}{i:Nat}{x:Int}:(qm k L).setIfInBounds i (.int k x)=qm k (L.set i x):=by
 simp[qm,List.map_set]
theorem w_of (N:Nat)(k:IntKind)(hm: ∀z,k.wrap z=z%2^N)(a b c:Int):k.wrap (a+k.wrap (b+c))=(a+b+c)%2^N:=by
 rw[hm,hm,Int.add_emod,Int.emod_emod,←Int.add_emod,Int.add_assoc]
theorem set4 {L:List Int}{a b c d:Nat}(hab:a≠b)(hac:a≠c)(had:a≠d)(hbc:b≠c)(hbd:b≠d)(hcd:c≠d)(A1 D1 C1 B1 A2 D2 C2 B2:Int):
  (((((((L.set a A1).set d D1).set c C1).set b B1).set a A2).set d D2).set c C2).set b B2=(((L.set a A2).set d D2).set c C2).set b B2:=by
 apply List.ext_getElem?
 intro i;by_cases h1:i=b
 ·subst h1;simp[List.getElem?_set,Ne.symm hab,Ne.symm hbc,Ne.symm hbd,hab,hbc,hbd]
 by_cases h2:i=c
 ·subst h2;simp[List.getElem?_set,Ne.symm h1,hcd,Ne.symm hcd,hac,Ne.symm hac,hbc]
 by_cases h3:i=d
 ·subst h3;simp[List.getElem?_set,Ne.symm h1,Ne.symm h2,had,Ne.symm had,hbd,hcd]
 by_cases h4:i=a
 ·subst h4;simp[List.getElem?_set,Ne.symm h1,Ne.symm h2,Ne.symm h3]
 ·simp[List.getElem?_set,Ne.symm h1,Ne.symm h2,Ne.symm h3,Ne.symm h4]
theorem Zw (N:Nat)(z:Int):0≤z%2^N∧z%2^N<2^N:=
 ⟨Int.emod_nonneg _ (Int.ne_of_gt (Int.pow_pos (by decide))),Int.emod_lt_of_pos _ (Int.pow_pos (by decide))⟩
theorem qQ (op:BinOp)(k:IntKind)(N:Nat)(hm: ∀z,k.wrap z=z%2^N)(x y:Int):0≤bits op k x y∧bits op k x y<2^N:=by
 unfold bits;simp only[hm];exact Zw N _
theorem qj {P:Program}{c:Code}{Q:Exit→Act→World→Prop}{a:Act}{w:World}(h: ∀W,W=w→Code.wp P c Q a W):Code.wp P c Q a w:=h w rfl
theorem qau {L:List Int}{i j:Nat}{x:Int}(h:i<L.length):wd (L.set i x) j=if i=j then x else wd L j:=by
 unfold wd;by_cases e:i=j
 ·subst e;simp[h]
 ·simp[e,Lg,List.getElem?_set]
structure At4 (k:IntKind)(b:Nat)(T:TypeId)(pa pb pc pd:Nat)(w0:World)(L:List Int)(va vb vc vd:Int)(w:World):Prop where
 heap:w.heap[b]? =some (.cells (qm k L) T (0,0))
 len:L.length=16
 ea:wd L pa=va
 eb:wd L pb=vb
 ec:wd L pc=vc
 ed:wd L pd=vd
 lt:pa<16∧pb<16∧pc<16∧pd<16
 ne:pa≠pb∧pa≠pc∧pa≠pd∧pb≠pc∧pb≠pd∧pc≠pd
 but:But b w0 w
namespace At4
variable {k:IntKind} {b:Nat} {T:TypeId} {pa pb pc pd:Nat} {w0:World} {L:List Int} {va vb vc vd:Int} {w:World}
theorem facts (h:At4 k b T pa pb pc pd w0 L va vb vc vd w):w.cell? ⟨b,pa,none⟩=some (.int k va)∧w.cell? ⟨b,pb,none⟩=some (.int k vb)∧w.cell? ⟨b,pc,none⟩=some (.int k vc)∧w.cell? ⟨b,pd,none⟩=some (.int k vd)∧(∀o,w.frozen? ⟨b,o,none⟩=false)∧b<w.heap.size:=by
 have at_: ∀i,i<16→w.cell? ⟨b,i,none⟩=some (.int k (wd L i)):=fun i hi=>by
  rw[qi h.heap];simp[qm,wd,Lg,List.getElem?_eq_getElem (show i<L.length by rw[h.len];exact hi)]
 exact⟨h.ea▸at_ pa h.lt.1,h.eb▸at_ pb h.lt.2.1,h.ec▸at_ pc h.lt.2.2.1,h.ed▸at_ pd h.lt.2.2.2,(Qd h.heap).2,(Ai h.heap).1⟩
theorem setA (h:At4 k b T pa pb pc pd w0 L va vb vc vd w)(n:Nat)(x:Int):At4 k b T pa pb pc pd w0 (L.set pa x) x vb vc vd ((w.drewN n).setCell ⟨b,pa,none⟩ (.int k x)):=by
 obtain⟨hh,hl,ha,hb,hc,hd,lt,ne,hbut⟩:=h;refine⟨by rw[←QX];exact block_setCell (w:=w.drewN n) hh _,by simpa using hl,?_,?_,?_,?_,lt,ne,(hbut.drewN n).set _ _⟩<;>rw[qau (by omega)]
 ·simp
 ·rw[if_neg ne.1,hb]
 ·rw[if_neg ne.2.1,hc]
 ·rw[if_neg ne.2.2.1,hd]
theorem setB (h:At4 k b T pa pb pc pd w0 L va vb vc vd w)(n:Nat)(x:Int):At4 k b T pa pb pc pd w0 (L.set pb x) va x vc vd ((w.drewN n).setCell ⟨b,pb,none⟩ (.int k x)):=by
 obtain⟨hh,hl,ha,hb,hc,hd,lt,ne,hbut⟩:=h;refine⟨by rw[←QX];exact block_setCell (w:=w.drewN n) hh _,by simpa using hl,?_,?_,?_,?_,lt,ne,(hbut.drewN n).set _ _⟩<;>rw[qau (by omega)]
 ·rw[if_neg (Ne.symm ne.1),ha]
 ·simp
 ·rw[if_neg ne.2.2.2.1,hc]
 ·rw[if_neg ne.2.2.2.2.1,hd]
theorem setC (h:At4 k b T pa pb pc pd w0 L va vb vc vd w)(n:Nat)(x:Int):At4 k b T pa pb pc pd w0 (L.set pc x) va vb x vd ((w.drewN n).setCell ⟨b,pc,none⟩ (.int k x)):=by
 obtain⟨hh,hl,ha,hb,hc,hd,lt,ne,hbut⟩:=h;refine⟨by rw[←QX];exact block_setCell (w:=w.drewN n) hh _,by simpa using hl,?_,?_,?_,?_,lt,ne,(hbut.drewN n).set _ _⟩<;>rw[qau (by omega)]
 ·rw[if_neg (Ne.symm ne.2.1),ha]
 ·rw[if_neg (Ne.symm ne.2.2.2.1),hb]
 ·simp
 ·rw[if_neg ne.2.2.2.2.2,hd]
theorem setD (h:At4 k b T pa pb pc pd w0 L va vb vc vd w)(n:Nat)(x:Int):At4 k b T pa pb pc pd w0 (L.set pd x) va vb vc x ((w.drewN n).setCell ⟨b,pd,none⟩ (.int k x)):=by
 obtain⟨hh,hl,ha,hb,hc,hd,lt,ne,hbut⟩:=h;refine⟨by rw[←QX];exact block_setCell (w:=w.drewN n) hh _,by simpa using hl,?_,?_,?_,?_,lt,ne,(hbut.drewN n).set _ _⟩<;>rw[qau (by omega)]
 ·rw[if_neg (Ne.symm ne.2.2.1),ha]
 ·rw[if_neg (Ne.symm ne.2.2.2.2.1),hb]
 ·rw[if_neg (Ne.symm ne.2.2.2.2.2),hc]
 ·simp
theorem alloc (h:At4 k b T pa pb pc pd w0 L va vb vc vd w)(o:Obj):At4 k b T pa pb pc pd w0 L va vb vc vd (w.alloc o):=
 ⟨(Bh _ _ _ (Ai h.heap).1).trans h.heap,h.len,h.ea,h.eb,h.ec,h.ed,h.lt,h.ne,h.but.alloc o⟩
theorem drew (h:At4 k b T pa pb pc pd w0 L va vb vc vd w)(n:Nat):At4 k b T pa pb pc pd w0 L va vb vc vd (w.drewN n):=⟨h.heap,h.len,h.ea,h.eb,h.ec,h.ed,h.lt,h.ne,h.but.drewN n⟩
theorem letter (h:At4 k b T pa pb pc pd w0 L va vb vc vd w){W:World}(e:W=w):At4 k b T pa pb pc pd w0 L va vb vc vd W:=e▸h
end At4
theorem QK (b:Nat)(L:List Int)(hL:Words 64 16 L)(pa pb pc pd:Nat)(ha:pa<16)(hb:pb<16)(hc:pc<16)(hd:pd<16)(hab:pa≠pb)(hac:pa≠pc)(had:pa≠pd)(hbc:pb≠pc)(hbd:pb≠pd)(hcd:pc≠pd)
  (x y:Int) (T:TypeId) (w:World) (hw:w.heap[b]? =some (.cells (qm .u64 L) T (0,0))):
  Calls Tryz.prog 154 #[.pointer (some ⟨b,0,none⟩),.agg #[.int .i64 pa,.int .i64 pb,.int .i64 pc,.int .i64 pd],.int .u64 x,.int .u64 y] w fun e w'=>e= .returned (.tuple #[])∧w'.heap[b]? =some (.cells (qm .u64 (mixBig.step L pa pb pc pd x y)) T (0,0))∧But b w w':=by
 have hbs:b<w.heap.size:=(Ai hw).1;have h0:At4 .u64 b T pa pb pc pd w L (wd L pa) (wd L pb) (wd L pc) (wd L pd) w:=⟨hw,hL.1,rfl,rfl,rfl,rfl,⟨ha,hb,hc,hd⟩,⟨hab,hac,had,hbc,hbd,hcd⟩,But.refl _ _⟩;clear hw;have hm: ∀z,IntKind.u64.wrap z=z%2^64:=fun z=>IntKind.wrap_u64 z
 obtain⟨A1,hA1⟩:=Ex (IntKind.u64.wrap (wd L pa+IntKind.u64.wrap (wd L pb+x)));obtain⟨X1,hX1⟩:=Ex (bits BinOp.xor .u64 (wd L pd) A1);obtain⟨D1,hD1⟩:=Ex (yk 64 32 X1);obtain⟨C1,hC1⟩:=Ex (IntKind.u64.wrap (wd L pc+D1));obtain⟨X2,hX2⟩:=Ex (bits BinOp.xor .u64 (wd L pb) C1);obtain⟨B1,hB1⟩:=Ex (yk 64 24 X2);obtain⟨A2,hA2⟩:=Ex (IntKind.u64.wrap (A1+IntKind.u64.wrap (B1+y)));obtain⟨X3,hX3⟩:=Ex (bits BinOp.xor .u64 D1 A2);obtain⟨D2,hD2⟩:=Ex (yk 64 16 X3);obtain⟨C2,hC2⟩:=Ex (IntKind.u64.wrap (C1+D2));obtain⟨X4,hX4⟩:=Ex (bits BinOp.xor .u64 B1 C2);obtain⟨B2,hB2⟩:=Ex (yk 64 63 X4);have R1:=hid (fun w=>qdV X1 w (hX1▸qQ .xor .u64 64 hm _ _));have R2:=hid (fun w=>qdW X2 w (hX2▸qQ .xor .u64 64 hm _ _));have R3:=hid (fun w=>qdX X3 w (hX3▸qQ .xor .u64 64 hm _ _));have R4:=hid (fun w=>qdU X4 w (hX4▸qQ .xor .u64 64 hm _ _));have ES:mixBig.step L pa pb pc pd x y=(((L.set pa A2).set pd D2).set pc C2).set pb B2:=by
  have e1:A1=mixBig.a1 (wd L pa) (wd L pb) x:=by rw[←hA1];exact w_of 64 .u64 hm _ _ _
  have e2:D1=mixBig.d1 (wd L pa) (wd L pb) (wd L pd) x:=by rw[←hD1,←hX1,e1];rfl
  have e3:C1=mixBig.c1 (wd L pa) (wd L pb) (wd L pc) (wd L pd) x:=by rw[←hC1,e2];exact hm _
  have e4:B1=mixBig.b1 (wd L pa) (wd L pb) (wd L pc) (wd L pd) x:=by rw[←hB1,←hX2,e3];rfl
  have e5:A2=mixBig.a2 (wd L pa) (wd L pb) (wd L pc) (wd L pd) x y:=by rw[←hA2,e1,e4];exact w_of 64 .u64 hm _ _ _
  have e6:D2=mixBig.d2 (wd L pa) (wd L pb) (wd L pc) (wd L pd) x y:=by rw[←hD2,←hX3,e2,e5];rfl
  have e7:C2=mixBig.c2 (wd L pa) (wd L pb) (wd L pc) (wd L pd) x y:=by rw[←hC2,e3,e6];exact hm _
  have e8:B2=mixBig.b2 (wd L pa) (wd L pb) (wd L pc) (wd L pd) x y:=by rw[←hB2,←hX4,e4,e7];rfl
  rw[e5,e6,e7,e8];rfl
 have ES':=hid ES;rw[hD1]at R1;rw[hB1]at R2;rw[hD2]at R3;rw[hB2]at R4;clear hD1 hB1 hD2 hB2 ES hm;generalize wd L pa=va at*;generalize wd L pb=vb at*;generalize wd L pc=vc at*;generalize wd L pd=vd at*;go_enter Tryz.func154,Tryz.ntmps154
 go_wp2_with fail
 obtain⟨ca,cb,cc,cd,fb,hs⟩:=h0.facts;go_quiet (fail)
 go_wp2_with fail
 clear ca cb cc cd fb hs;replace h0:=(h0.alloc (.cells #[.int .i64 pa,.int .i64 pb,.int .i64 pc,.int .i64 pd] 238 (0,0))).drew nq
 refine qj ?_;intro W0 hW;have H0:=hid (h0.letter hW);obtain⟨ca,cb,cc,cd,fb,hs⟩:=H0.out.facts;clear hW h0;refine qe (by dsimp only[List.dropLast]) (by rfl) (by rfl) (by kernel_rfl) (by kernel_rfl) (by kernel_rfl) (by kernel_rfl) ?_;repeat(go_big_quiet_step (fail))
 refine wpQuiet_nil ?_;intro _ hw';obtain⟨n0,rfl⟩:=hw';go_wp2_with fail
 clear ca cb cc cd fb hs;have h1:=H0.out.setA n0 A1;clear H0;refine qj ?_;intro W1 hW;have H1:=hid (h1.letter hW);obtain⟨ca,cb,cc,cd,fb,hs⟩:=H1.out.facts;clear hW h1;refine qe (by dsimp only[List.dropLast]) (by rfl) (by rfl) (by kernel_rfl) (by kernel_rfl) (by kernel_rfl) (by kernel_rfl) ?_;repeat(go_big_quiet_step (exact Calls.quiet_of_same (R1.out _)))
 refine wpQuiet_nil ?_;intro _ hw';obtain⟨n1,rfl⟩:=hw';go_wp2_with fail
 clear ca cb cc cd fb hs;have h2:=H1.out.setD n1 D1;clear H1;refine qj ?_;intro W2 hW;have H2:=hid (h2.letter hW);obtain⟨ca,cb,cc,cd,fb,hs⟩:=H2.out.facts;clear hW h2;refine qe (by dsimp only[List.dropLast]) (by rfl) (by rfl) (by kernel_rfl) (by kernel_rfl) (by kernel_rfl) (by kernel_rfl) ?_;repeat(go_big_quiet_step (fail))
 refine wpQuiet_nil ?_;intro _ hw';obtain⟨n2,rfl⟩:=hw';go_wp2_with fail
 clear ca cb cc cd fb hs;have h3:=H2.out.setC n2 C1;clear H2;refine qj ?_;intro W3 hW;have H3:=hid (h3.letter hW);obtain⟨ca,cb,cc,cd,fb,hs⟩:=H3.out.facts;clear hW h3;refine qe (by dsimp only[List.dropLast]) (by rfl) (by rfl) (by kernel_rfl) (by kernel_rfl) (by kernel_rfl) (by kernel_rfl) ?_;repeat(go_big_quiet_step (exact Calls.quiet_of_same (R2.out _)))
 refine wpQuiet_nil ?_;intro _ hw';obtain⟨n3,rfl⟩:=hw';go_wp2_with fail
 clear ca cb cc cd fb hs;have h4:=H3.out.setB n3 B1;clear H3;refine qj ?_;intro W4 hW;have H4:=hid (h4.letter hW);obtain⟨ca,cb,cc,cd,fb,hs⟩:=H4.out.facts;clear hW h4;refine qe (by dsimp only[List.dropLast]) (by rfl) (by rfl) (by kernel_rfl) (by kernel_rfl) (by kernel_rfl) (by kernel_rfl) ?_;repeat(go_big_quiet_step (fail))
 refine wpQuiet_nil ?_;intro _ hw';obtain⟨n4,rfl⟩:=hw';go_wp2_with fail
 clear ca cb cc cd fb hs;have h5:=H4.out.setA n4 A2;clear H4;refine qj ?_;intro W5 hW;have H5:=hid (h5.letter hW);obtain⟨ca,cb,cc,cd,fb,hs⟩:=H5.out.facts;clear hW h5;refine qe (by dsimp only[List.dropLast]) (by rfl) (by rfl) (by kernel_rfl) (by kernel_rfl) (by kernel_rfl) (by kernel_rfl) ?_;repeat(go_big_quiet_step (exact Calls.quiet_of_same (R3.out _)))
 refine wpQuiet_nil ?_;intro _ hw';obtain⟨n5,rfl⟩:=hw';go_wp2_with fail
 clear ca cb cc cd fb hs;have h6:=H5.out.setD n5 D2;clear H5;refine qj ?_;intro W6 hW;have H6:=hid (h6.letter hW);obtain⟨ca,cb,cc,cd,fb,hs⟩:=H6.out.facts;clear hW h6;refine qe (by dsimp only[List.dropLast]) (by rfl) (by rfl) (by kernel_rfl) (by kernel_rfl) (by kernel_rfl) (by kernel_rfl) ?_;repeat(go_big_quiet_step (fail))
 refine wpQuiet_nil ?_;intro _ hw';obtain⟨n6,rfl⟩:=hw';go_wp2_with fail
 clear ca cb cc cd fb hs;have h7:=H6.out.setC n6 C2;clear H6;refine qj ?_;intro W7 hW;have H7:=hid (h7.letter hW);obtain⟨ca,cb,cc,cd,fb,hs⟩:=H7.out.facts;clear hW h7;refine qe (by dsimp only[List.dropLast]) (by rfl) (by rfl) (by kernel_rfl) (by kernel_rfl) (by kernel_rfl) (by kernel_rfl) ?_;repeat(go_big_quiet_step (exact Calls.quiet_of_same (R4.out _)))
 refine wpQuiet_nil ?_;intro _ hw';obtain⟨n7,rfl⟩:=hw';go_wp2_with fail
 clear ca cb cc cd fb hs;have h8:=H7.out.setB n7 B2;clear H7;refine bodyPost_end (results_none rfl _ _ _) rfl ⟨rfl,?_,h8.but⟩;rw[ES'.out,←set4 hab hac had hbc hbd hcd A1 D1 C1 B1];exact h8.heap
theorem QL (b:Nat)(L:List Int)(hL:Words 32 16 L)(pa pb pc pd:Nat)(ha:pa<16)(hb:pb<16)(hc:pc<16)(hd:pd<16)(hab:pa≠pb)(hac:pa≠pc)(had:pa≠pd)(hbc:pb≠pc)(hbd:pb≠pd)(hcd:pc≠pd)
  (x y:Int) (T:TypeId) (w:World) (hw:w.heap[b]? =some (.cells (qm .u32 L) T (0,0))):
  Calls Tryz.prog 156 #[.pointer (some ⟨b,0,none⟩),.int .i64 pa,.int .i64 pb,.int .i64 pc,.int .i64 pd,.int .u32 x,.int .u32 y] w fun e w'=>e= .returned (.tuple #[])∧w'.heap[b]? =some (.cells (qm .u32 (mixSmall.step L pa pb pc pd x y)) T (0,0))∧But b w w':=by
 have hbs:b<w.heap.size:=(Ai hw).1;have h0:At4 .u32 b T pa pb pc pd w L (wd L pa) (wd L pb) (wd L pc) (wd L pd) w:=⟨hw,hL.1,rfl,rfl,rfl,rfl,⟨ha,hb,hc,hd⟩,⟨hab,hac,had,hbc,hbd,hcd⟩,But.refl _ _⟩;clear hw;have hm: ∀z,IntKind.u32.wrap z=z%2^32:=fun z=>IntKind.wrap_u32 z
 obtain⟨A1,hA1⟩:=Ex ((wd L pa+(wd L pb+x))%4294967296);obtain⟨X1,hX1⟩:=Ex (bits BinOp.xor .u32 (wd L pd) A1);obtain⟨D1,hD1⟩:=Ex (yk 32 16 X1);obtain⟨C1,hC1⟩:=Ex ((wd L pc+D1)%4294967296);obtain⟨X2,hX2⟩:=Ex (bits BinOp.xor .u32 (wd L pb) C1);obtain⟨B1,hB1⟩:=Ex (yk 32 12 X2);obtain⟨A2,hA2⟩:=Ex ((A1+(B1+y))%4294967296);obtain⟨X3,hX3⟩:=Ex (bits BinOp.xor .u32 D1 A2);obtain⟨D2,hD2⟩:=Ex (yk 32 8 X3);obtain⟨C2,hC2⟩:=Ex ((C1+D2)%4294967296);obtain⟨X4,hX4⟩:=Ex (bits BinOp.xor .u32 B1 C2);obtain⟨B2,hB2⟩:=Ex (yk 32 7 X4);have R1:=hid (fun w=>qdY X1 w (hX1▸qQ .xor .u32 32 hm _ _));have R2:=hid (fun w=>qdZ X2 w (hX2▸qQ .xor .u32 32 hm _ _));have R3:=hid (fun w=>qeP X3 w (hX3▸qQ .xor .u32 32 hm _ _));have R4:=hid (fun w=>qeQ X4 w (hX4▸qQ .xor .u32 32 hm _ _));have ES:mixSmall.step L pa pb pc pd x y=(((L.set pa A2).set pd D2).set pc C2).set pb B2:=by
  have e1:A1=mixSmall.a1 (wd L pa) (wd L pb) x:=by rw[←hA1];rw[←Int.add_assoc];rfl
  have e2:D1=mixSmall.d1 (wd L pa) (wd L pb) (wd L pd) x:=by rw[←hD1,←hX1,e1];rfl
  have e3:C1=mixSmall.c1 (wd L pa) (wd L pb) (wd L pc) (wd L pd) x:=by rw[←hC1,e2];rfl
  have e4:B1=mixSmall.b1 (wd L pa) (wd L pb) (wd L pc) (wd L pd) x:=by rw[←hB1,←hX2,e3];rfl
  have e5:A2=mixSmall.a2 (wd L pa) (wd L pb) (wd L pc) (wd L pd) x y:=by rw[←hA2,e1,e4];rw[←Int.add_assoc];rfl
  have e6:D2=mixSmall.d2 (wd L pa) (wd L pb) (wd L pc) (wd L pd) x y:=by rw[←hD2,←hX3,e2,e5];rfl
  have e7:C2=mixSmall.c2 (wd L pa) (wd L pb) (wd L pc) (wd L pd) x y:=by rw[←hC2,e3,e6];rfl
  have e8:B2=mixSmall.b2 (wd L pa) (wd L pb) (wd L pc) (wd L pd) x y:=by rw[←hB2,←hX4,e4,e7];rfl
  rw[e5,e6,e7,e8];rfl
 have ES':=hid ES;rw[hD1]at R1;rw[hB1]at R2;rw[hD2]at R3;rw[hB2]at R4;clear hD1 hB1 hD2 hB2 ES hm;generalize wd L pa=va at*;generalize wd L pb=vb at*;generalize wd L pc=vc at*;generalize wd L pd=vd at*;go_enter Tryz.func156,Tryz.ntmps156
 go_wp2_with fail
 refine qj ?_;intro W0 hW;have H0:=hid (h0.letter hW);obtain⟨ca,cb,cc,cd,fb,hs⟩:=H0.out.facts;clear hW h0;refine qe (by dsimp only[List.dropLast]) (by rfl) (by rfl) (by kernel_rfl) (by kernel_rfl) (by kernel_rfl) (by kernel_rfl) ?_;repeat(go_big_quiet_step (fail))
 refine wpQuiet_nil ?_;intro _ hw';obtain⟨n0,rfl⟩:=hw';go_wp2_with fail
 clear ca cb cc cd fb hs;have h1:=H0.out.setA n0 A1;clear H0;refine qj ?_;intro W1 hW;have H1:=hid (h1.letter hW);obtain⟨ca,cb,cc,cd,fb,hs⟩:=H1.out.facts;clear hW h1;refine qe (by dsimp only[List.dropLast]) (by rfl) (by rfl) (by kernel_rfl) (by kernel_rfl) (by kernel_rfl) (by kernel_rfl) ?_;repeat(go_big_quiet_step (exact Calls.quiet_of_same (R1.out _)))
 refine wpQuiet_nil ?_;intro _ hw';obtain⟨n1,rfl⟩:=hw';go_wp2_with fail
 clear ca cb cc cd fb hs;have h2:=H1.out.setD n1 D1;clear H1;refine qj ?_;intro W2 hW;have H2:=hid (h2.letter hW);obtain⟨ca,cb,cc,cd,fb,hs⟩:=H2.out.facts;clear hW h2;refine qe (by dsimp only[List.dropLast]) (by rfl) (by rfl) (by kernel_rfl) (by kernel_rfl) (by kernel_rfl) (by kernel_rfl) ?_;repeat(go_big_quiet_step (fail))
 refine wpQuiet_nil ?_;intro _ hw';obtain⟨n2,rfl⟩:=hw';go_wp2_with fail
 clear ca cb cc cd fb hs;have h3:=H2.out.setC n2 C1;clear H2;refine qj ?_;intro W3 hW;have H3:=hid (h3.letter hW);obtain⟨ca,cb,cc,cd,fb,hs⟩:=H3.out.facts;clear hW h3;refine qe (by dsimp only[List.dropLast]) (by rfl) (by rfl) (by kernel_rfl) (by kernel_rfl) (by kernel_rfl) (by kernel_rfl) ?_;repeat(go_big_quiet_step (exact Calls.quiet_of_same (R2.out _)))
 refine wpQuiet_nil ?_;intro _ hw';obtain⟨n3,rfl⟩:=hw';go_wp2_with fail
 clear ca cb cc cd fb hs;have h4:=H3.out.setB n3 B1;clear H3;refine qj ?_;intro W4 hW;have H4:=hid (h4.letter hW);obtain⟨ca,cb,cc,cd,fb,hs⟩:=H4.out.facts;clear hW h4;refine qe (by dsimp only[List.dropLast]) (by rfl) (by rfl) (by kernel_rfl) (by kernel_rfl) (by kernel_rfl) (by kernel_rfl) ?_;repeat(go_big_quiet_step (fail))
 refine wpQuiet_nil ?_;intro _ hw';obtain⟨n4,rfl⟩:=hw';go_wp2_with fail
 clear ca cb cc cd fb hs;have h5:=H4.out.setA n4 A2;clear H4;refine qj ?_;intro W5 hW;have H5:=hid (h5.letter hW);obtain⟨ca,cb,cc,cd,fb,hs⟩:=H5.out.facts;clear hW h5;refine qe (by dsimp only[List.dropLast]) (by rfl) (by rfl) (by kernel_rfl) (by kernel_rfl) (by kernel_rfl) (by kernel_rfl) ?_;repeat(go_big_quiet_step (exact Calls.quiet_of_same (R3.out _)))
 refine wpQuiet_nil ?_;intro _ hw';obtain⟨n5,rfl⟩:=hw';go_wp2_with fail
 clear ca cb cc cd fb hs;have h6:=H5.out.setD n5 D2;clear H5;refine qj ?_;intro W6 hW;have H6:=hid (h6.letter hW);obtain⟨ca,cb,cc,cd,fb,hs⟩:=H6.out.facts;clear hW h6;refine qe (by dsimp only[List.dropLast]) (by rfl) (by rfl) (by kernel_rfl) (by kernel_rfl) (by kernel_rfl) (by kernel_rfl) ?_;repeat(go_big_quiet_step (fail))
 refine wpQuiet_nil ?_;intro _ hw';obtain⟨n6,rfl⟩:=hw';go_wp2_with fail
 clear ca cb cc cd fb hs;have h7:=H6.out.setC n6 C2;clear H6;refine qj ?_;intro W7 hW;have H7:=hid (h7.letter hW);obtain⟨ca,cb,cc,cd,fb,hs⟩:=H7.out.facts;clear hW h7;refine qe (by dsimp only[List.dropLast]) (by rfl) (by rfl) (by kernel_rfl) (by kernel_rfl) (by kernel_rfl) (by kernel_rfl) ?_;repeat(go_big_quiet_step (exact Calls.quiet_of_same (R4.out _)))
 refine wpQuiet_nil ?_;intro _ hw';obtain⟨n7,rfl⟩:=hw';go_wp2_with fail
 clear ca cb cc cd fb hs;have h8:=H7.out.setB n7 B2;clear H7;refine bodyPost_end (results_none rfl _ _ _) rfl ⟨rfl,?_,h8.but⟩;rw[ES'.out,←set4 hab hac had hbc hbd hcd A1 D1 C1 B1];exact h8.heap
end Go.Proofs.YtdndeffmlhaipaaGreatDoor
