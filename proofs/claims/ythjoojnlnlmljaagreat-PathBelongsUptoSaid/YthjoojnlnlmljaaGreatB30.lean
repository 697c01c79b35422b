/- Slices of bytes that are handed on; the count; a block filled up. No condition. -/
import Derived.Test.YthjoojnlnlmljaaGreatP00
import Derived.Test.YthjoojnlnlmljaaGreatB28
import Derived.Test.YthjoojnlnlmljaaGreatB29
import Derived.Laws.Externs
import Derived.Test.YthjoojnlnlmljaaGreatB25
import Derived.Test.YthjoojnlnlmljaaGreatB24
set_option linter.all false
set_option maxRecDepth 100000
set_option maxHeartbeats 8000000
namespace Go.Proofs.YthjoojnlnlmljaaGreat
open Go.ChangeShapes Go.WideShapes Go.ChangeAt Go.RowKit Go.Joins Go.Shelf Go.Maps
open Go.Lib (hid)
attribute [local go_sem] Oper.semAt_some
def Hold (w:World)(v:Value)(zs:List Int):Prop:=
 (∀z∈zs,0≤z∧z≤255)∧((zs=[]∧v= .slice none 0 0)∨ ∃ad cap,v= .slice (some ad) zs.length cap∧zs.length≤cap∧cap≤maxLen∧(zs=[]∨ ∃b off,ad=⟨b,off,none⟩∧Qx w b off zs))
theorem Hold.nil (w:World):Hold w (.slice none 0 0) []:=⟨(fun _ h=>by cases h),.inl ⟨rfl,rfl⟩⟩
theorem Hold.holds8 {w:World}{v:Value}{zs:List Int}(h:Hold w v zs):Holds8 w v zs:=by
 rcases h.2 with⟨rfl,rfl⟩|⟨r,q,rfl,D,G,o⟩
 ·exact⟨none,0,rfl,.inl rfl⟩
 ·refine⟨some r,q,rfl,?_⟩;rcases o with o|⟨b,off,rfl,o⟩
  ·exact .inl o
  ·exact .inr ⟨b,off,rfl,o⟩
theorem Hold.slice {w:World}{v:Value}{zs:List Int}(h:Hold w v zs): ∃a o,v= .slice a zs.length o∧zs.length≤o∧(o:Int)≤9223372036854775807:=by
 rcases h.2 with⟨rfl,rfl⟩|⟨D,o,rfl,q,r,G⟩
 ·exact⟨none,0,rfl,Nat.le_refl _,by omega⟩
 ·exact⟨some D,o,rfl,q,by unfold maxLen at r;omega⟩
theorem Hold.src {w:World}{v:Value}{zs:List Int}(h:Hold w v zs):SrcIs w v zs.length (zs.map qo):=by
 rcases h.2 with⟨rfl,rfl⟩|⟨G,D,rfl,I,J,r⟩
 ·exact⟨rfl,by simp,.inl ⟨rfl,rfl⟩⟩
 ·refine⟨by simp,qe7,.inr ⟨G,D,rfl,?_⟩⟩;rcases r with rfl|⟨b,off,rfl,r⟩
  ·intro j u q;simp at q
  ·intro j u q;obtain⟨o,rfl⟩:=List.getElem?_eq_some_iff.1 q;simp at o
   rw[Go.WideShapes.add_plain,r.2 j o];simp[qo,qp,Lg,o]
theorem Hold.keep {w w':World}{v:Value}{zs:List Int}(h:Hold w v zs)(I:w.heap.size≤w'.heap.size)(O: ∀b,v.ownBlock=some b→b<w.heap.size→w'.heap[b]? =w.heap[b]?):Hold w' v zs:=by
 refine⟨h.1,?_⟩;rcases h.2 with q|⟨J,r,rfl,D,q,o⟩
 ·exact .inl q
 ·refine .inr ⟨J,r,rfl,D,q,?_⟩;rcases o with o|⟨b,off,rfl,o,G⟩
  ·exact .inl o
  ·refine .inr ⟨b,off,rfl,Nat.lt_of_lt_of_le o I,fun i hi=>?_⟩;rw[←G i hi];exact World.cell?_of_block (O b rfl o)
theorem Hold.below {w w':World}{v:Value}{zs:List Int}(h:Hold w v zs)(q:Below w.heap.size w w'):Hold w' v zs:=h.keep q.size fun b _ o=>q.block b o
theorem Qi {W:World}{base:Nat}{v:Value}{n:Nat}{zs:List Int}(h:W.ownsRow base 5 1 v n (zs.map qo))(I: ∀z∈zs,0≤z∧z≤255):Hold W v zs:=by
 have r:zs.length=n:=by have:=h.1;simpa using this
 refine⟨I,?_⟩;rcases h.2 with⟨rfl,Z⟩|⟨g,q,O,rfl,U,V,h3,J,X,Y⟩
 ·exact .inl ⟨List.eq_nil_of_length_eq_zero (by omega),rfl⟩
 ·refine .inr ⟨⟨g,0,none⟩,q,by rw[r],by omega,J,?_⟩;obtain⟨a,c,e,o⟩:=yf h;rcases o with o|⟨b,off,G,D⟩
  ·exact .inl o
  ·rw[G]at e;simp only[Value.slice.injEq,Option.some.injEq,Addr.mk.injEq,and_true]at e;obtain⟨⟨rfl,rfl⟩, -, -⟩:=e;exact .inr ⟨_,_,rfl,D⟩
theorem qdi (x y c:Nat)(q:x<18446744073709551616)(o:y<18446744073709551616)(r:c≤1)(w:World):
  (callFunc 262 #[.int .u64 x,.int .u64 y,.int .u64 c]).run Tryz.prog w=
   .ok (.value (.tuple #[.int .u64 (((x+y+c)%18446744073709551616:Nat):Int),.int .u64 (((x+y+c)/18446744073709551616:Nat):Int)])) w:=by
 rw[run_callFunc_extern Tryz.func262 (by kernel_rfl) (by kernel_rfl) (by kernel_rfl) (e:=add64Entry) (by kernel_rfl),run_add64 x y c (by omega) (by omega) (by omega) (by omega)];simp only[Result.andThen];congr 5<;>omega
theorem qd4 (lo n:Nat)(h:lo+n<9223372036854775808)(w:World):
  Calls Tryz.prog 261 #[.agg #[.int .u64 lo,.int .u64 0],.int .u64 n] w fun e w'=>e= .returned (.tuple #[.agg #[.int .u64 ((lo+n:Nat):Int),.int .u64 0],.bool false])∧Below w.heap.size w w':=by
 have o:=qdi lo n 0 (by omega) (by omega) (by omega);have q:=qdi 0 0 0 (by omega) (by omega) (by omega);rw[show(lo+n+0)%18446744073709551616=lo+n by omega,show(lo+n+0)/18446744073709551616=0 by omega]at o;rw[show(0+0+0)%18446744073709551616=0 by omega,show(0+0+0)/18446744073709551616=0 by omega]at q;simp only[Int.natCast_zero]at o q;obtain⟨s,r⟩:=Ex (lo+n);rw[r]at o⊢;clear r h;go_enter Tryz.func261,Tryz.ntmps261
 go_wp2_with (simp only[o,q])
 exact Bp (v:= .tuple #[.agg #[.int .u64 s,.int .u64 0],.bool false]) (by simp[results,Tryz.results261,go_sem]) rfl ⟨rfl,(Br.alloc Nl _).alloc (by simp) _⟩
theorem ZQ (big:Bool)(w:World):Calls Tryz.prog 134 #[.int .i64 (kB big)] w fun e w'=>e= .returned (.int .i64 (bB big))∧w'=w:=by
 cases big<;>
 ·simp only[kB,bB,cond];go_enter Tryz.func134,Tryz.ntmps134
  go_wp2
  go_ret
  exact⟨rfl,rfl⟩
theorem zn (big:Bool)(w:World):Calls Tryz.prog 181 #[.int .i64 (kB big)] w fun e w'=>e= .returned (.int .i64 (bB big))∧w'=w:=by
 cases big<;>
 ·simp only[kB,bB,cond];go_enter Tryz.func181,Tryz.ntmps181
  go_wp2
  go_ret
  exact⟨rfl,rfl⟩
theorem jN (zs:List Int)(v:Value)(n:Nat)(w:World)(h:Hold w v zs)(hl:zs.length≤n)(hn:1≤n∧n≤65535):
  Calls Tryz.prog 161 #[v,.int .i64 n] w fun e w'=> ∃v',e= .returned v'∧w'.ownsRow w.heap.size 5 1 v' n ((QG n zs).map qo)∧Below w.heap.size w w':=by
 obtain⟨i0,hi,aa,D,ad⟩:=info_parts Ql;have G:=h.src;obtain⟨a,al,rfl,am,ak⟩:=h.slice;have aj: ∀W:World,(Instr.makeSlice 24 (.int .i64 0) (.int .i64 n)).run Tryz.prog W= .ok (.slice (some ⟨W.heap.size,0,none⟩) 0 n) (W.alloc (.cells (madeCells Kc n) 5)):=by
  intro W;have:=run_make (P:=Tryz.prog) W 24 5 i0 (.int .u8 0) Tryz.underlying24 hi aa .i64 .i64 0 n (by omega) (by omega) (by rw[ad];omega) (by omega)
  simpa [D,show(Value.int .u8 0).cells= Kc from rfl] using this
 have U:(w.alloc (.cells (madeCells Kc n) 5)).ownsRow w.heap.size 5 1 (.slice (some ⟨w.heap.size,0,none⟩) 0 n) 0 []:=by
  refine⟨rfl,.inr ⟨w.heap.size,n,_,rfl,Nat.le_refl _,Wn _ _,Nat.zero_le _,by unfold maxLen;omega,by simp[madeCells],rfl⟩⟩
 have J:Below w.heap.size w (w.alloc (.cells (madeCells Kc n) 5)):=Br.alloc Nl _;have Y:=G.below J;clear h G;go_enter Tryz.func161,Tryz.ntmps161
 obtain⟨m,hm⟩:=Ex (n - zs.length);have ac:(n:Int) - (zs.length:Int)=(m:Int):=by omega
 have ai:m≤65535:=by omega
 have K1:=hid ac;have HM:=hid hm;have Z:zs.length+m=n:=by omega
 have o:=hid Z;obtain⟨V,q⟩:=Ex w.heap.size;rw[q]at U J;clear ac hm Z;go_wp2_with (first|((with_reducible show wpList _ _ _ (Oper.mk (some 8) _ _ _ _ _::_) _ _);refine Jq rfl _ _ _ rfl V 5 i0 Tryz.underlying24 hi D V 0 n [] (by rw[←q];rfl) U _ zs.length _ rfl Y (by omega) ?_;intro w2 X ae;obtain⟨r,ab,O,af, -⟩:=zb X)|((with_reducible show wpList _ _ _ (Oper.mk (some 13) _ _ _ _ _::_) _ _);refine j9 rfl _ _ _ _ rfl 5 .i64 i0 (.int .u8 0) Tryz.underlying24 Tryz.underlying3 hi aa D rfl V zs.length n m r rfl (by rw[←K1.out];rfl) ab (by rw[o.out];exact Nat.le_refl _) (by rw[o.out,O];exact Nat.le_refl _) (by omega) (by rw[ad];omega) rfl ?_))
 go_ret
 rw[o.out];have hp:QG n zs=zs++List.replicate m 0:=by rw[←HM.out];rfl
 have I:r.toList.take zs.length=zs.map qo:=by simpa using af
 have ag:r.toList.drop n=[]:=List.drop_of_length_le (by simp[O]);refine⟨_,rfl,⟨by rw[hp];simp[o.out],.inr ⟨V,n,_,rfl,by omega,setRow_heap _ _ _ _ _ _ ab,Nat.le_refl _,by unfold maxLen;omega,?_,?_⟩⟩,?_⟩
 ·have ah:=congrArg List.length I;simp at ah
  simp[O,o.out];have:=o.out;omega
 ·rw[hp,I,ag];simp only[List.append_nil,List.map_append,List.map_replicate];exact List.take_of_length_le (by simp[o.out])
 ·rw[q];exact below_setRow (J.grown ae (by simp[q]) (fun k e=>by cases e;exact Nat.le_refl _)) Nl _
theorem Holds8.mono_below {w w':World}{v:Value}{zs:List Int}{B:Nat}(h:Holds8 w v zs)(q:Below B w w')(o:w.heap.size≤B):Holds8 w' v zs:=qN h (q.mono o)
theorem qeO (h I:List Int)(hh:Words 64 8 h)(v:Value)(lo:Nat)(aa:(lo:Int)<9223372036854775808)(r node:Bool)(w:World)(hH:Holds8 w v I)(hz: ∀z∈I,0≤z∧z≤255)(hl:I.length=128):
  Calls Tryz.prog 184 #[.agg (qj .u64 h),v,.agg #[.int .u64 lo,.int .u64 0],.bool r,.bool node] w fun e w'=>e= .returned (.agg (qj .u64 (yJ true h I (lo:Nat) r node)))∧Below w.heap.size w w':=by
 obtain⟨o,q⟩:=Ex w.heap.size;have G:=ym 8 16 hz (by rw[hl]);obtain⟨M,Z⟩:=Ex (Q3 8 16 I);obtain⟨R,Y⟩:=Ex (yJ true h I (lo:Nat) r node);have af:Words 64 8 R:=by rw[←Y];exact QX true hh _ _ _ _
 have ab:Zl mixBig IVb 12 h M (lo:Nat) 0 r node=R:=by rw[←Y,←Z];rfl
 rw[Y];rw[Z]at G;have HM:=hid Z;have ah:=hid ab;have HL:=hid hl;have an:=hid aa;clear Z Y ab hl aa;have O:Below o w (((w.alloc (.cells (qj .u64 h) 274)).alloc (.cells #[.int .u64 lo,.int .u64 0] 281)).alloc (.cells Kg 274)):=by rw[←q];exact((Br.alloc Nl _).alloc (by simp) _).alloc (by simp;omega) _
 have am:(((w.alloc (.cells (qj .u64 h) 274)).alloc (.cells #[.int .u64 lo,.int .u64 0] 281)).alloc (.cells Kg 274)).heap.size=o+1+1+1:=by simp[q]
 have h0:(((w.alloc (.cells (qj .u64 h) 274)).alloc (.cells #[.int .u64 lo,.int .u64 0] 281)).alloc (.cells Kg 274)).heap[o]? =some (.cells (qj .u64 h) 274 (0,0)):=by
  rw[Bh _ _ _ (by simp[q];omega),Bh _ _ _ (by simp[q]),←q];exact Wn _ _
 have h1:(((w.alloc (.cells (qj .u64 h) 274)).alloc (.cells #[.int .u64 lo,.int .u64 0] 281)).alloc (.cells Kg 274)).heap[o+1]? =some (.cells #[.int .u64 lo,.int .u64 0] 281 (0,0)):=by
  rw[Bh _ _ _ (by simp[q]),show o+1=(w.alloc (.cells (qj .u64 h) 274)).heap.size by simp[q]];exact Wn _ _
 have h2:(((w.alloc (.cells (qj .u64 h) 274)).alloc (.cells #[.int .u64 lo,.int .u64 0] 281)).alloc (.cells Kg 274)).heap[o+1+1]? =some (.cells Kg 274 (0,0)):=by
  rw[show o+1+1=((w.alloc (.cells (qj .u64 h) 274)).alloc (.cells #[.int .u64 lo,.int .u64 0] 281)).heap.size by simp[q]];exact Wn _ _
 have HH:=hid (hH.mono_below O (by omega));clear hH;go_enter Tryz.func184,Tryz.ntmps184
 go_wp2_with fail
 generalize (((w.alloc (.cells (qj .u64 h) 274)).alloc (.cells #[.int .u64 lo,.int .u64 0] 281)).alloc (.cells Kg 274))=w0 at*;refine(qft I v _ HH.out hz HL.out).mono ?_;rintro e w1 ⟨rfl,D⟩;rw[HM.out];have ai:=D.size;have k0:=qf h0 D;have k1:=qf h1 D;have k2:=qf h2 D;have ad:Below o w w1:=O.trans (D.mono (by omega));have aj:o+3≤w1.heap.size:=by omega
 clear h0 h1 h2 D O HH am ai;have K0:=hid k0;have K1:=hid k1;have K2:=hid k2;have ag:=hid hh;clear k0 k1 k2 hh hz;go_upto_region 2 with((with_reducible show wpList _ _ _ (Oper.mk none (Op.store 252 _ _) _ _ _ _::_) _ _);refine wpList_store_row rfl 252 _ _ rfl w1.heap.size (qj .u64 M) rfl rfl 252 _ (Wn _ _) (by rw[qg,G.1];kernel_rfl) (by rw[qg,G.1];rfl) qy ?_)
 refine qm ?_;intro W J;obtain⟨bv,U⟩:=Ex w1.heap.size;have g0:W.heap[o]? =some (.cells (qj .u64 h) 274 (0,0)):=by rw[J];exact(setRow_other (w1.alloc _) _ _ _ (by omega)).trans ((Bh _ _ _ (by omega)).trans K0.out)
 have g1:W.heap[o+1]? =some (.cells #[.int .u64 lo,.int .u64 0] 281 (0,0)):=by rw[J];exact(setRow_other (w1.alloc _) _ _ _ (by omega)).trans ((Bh _ _ _ (by omega)).trans K1.out)
 have g2:W.heap[o+1+1]? =some (.cells Kg 274 (0,0)):=by rw[J];exact(setRow_other (w1.alloc _) _ _ _ (by omega)).trans ((Bh _ _ _ (by omega)).trans K2.out)
 have g3:W.heap[bv]? =some (.cells (qj .u64 M) 252 (0,0)):=by rw[J,←U];exact setRow_heap _ _ _ _ _ _ (Wn _ _)
 have ae:Below o w W:=by rw[J];exact below_setRow (ad.alloc (by omega) _) (by omega) _
 rw[U];clear J ad U aj K0 K1 K2;have V:=hid af;have ac:=hid G;clear af G;have ak:=qd g1 0;go_wp2_with (first|((with_reducible show wpList _ _ _ (Oper.mk (some 18) _ _ _ _ _::_) _ _);refine wpList_load_row rfl 274 _ rfl o rfl _ _ _ _ g0 Tryz.underlying274 rfl (by rw[qg,ag.out.1];kernel_rfl) ?_)|((with_reducible show wpList _ _ _ (Oper.mk (some 19) _ _ _ _ _::_) _ _);refine wpList_load_row rfl 252 _ rfl bv rfl _ _ _ _ g3 Tryz.underlying252 rfl (by rw[qg,ac.out.1];kernel_rfl) ?_)|((with_reducible show wpList _ _ _ (Oper.mk (some 20) _ _ _ _ _::_) _ _);refine wpList_load_row rfl 281 _ rfl (o+1) rfl _ _ _ _ g1 Tryz.underlying281 rfl (by kernel_rfl) ?_))
 refine(qjN h M ag.out ac.out (lo:Nat) 0 r node _).mono ?_;rintro e w2 ⟨rfl,X⟩;rw[ah.out];have j2:=qf g2 X;have al:Below o w w2:=ae.trans (X.mono (by have:=(Ai g2).1;omega));clear g0 g1 g2 g3 ae X ak;go_wp2_with ((with_reducible show wpList _ _ _ (Oper.mk none (Op.store 274 _ _) _ _ _ _::_) _ _);refine wpList_store_row rfl 274 _ _ rfl (o+1+1) (qj .u64 R) rfl rfl 274 _ j2 (by rw[qg,V.out.1];kernel_rfl) (by rw[qg,V.out.1];rfl) qy ?_)
 exact Bp (results_cell_row rfl _ _ (o+1+1) 274 _ _ _ rfl (setRow_heap _ _ _ _ _ _ j2) Tryz.underlying274 rfl (by rw[qg,V.out.1];kernel_rfl)) rfl ⟨rfl,by rw[q];exact below_setRow al (by omega) _⟩
theorem qc2 (h I:List Int)(hh:Words 32 8 h)(v:Value)(lo:Nat)(aa:(lo:Int)<9223372036854775808)(r node:Bool)(w:World)(hH:Holds8 w v I)(hz: ∀z∈I,0≤z∧z≤255)(hl:I.length=64):
  Calls Tryz.prog 187 #[.agg (qj .u32 h),v,.agg #[.int .u64 lo,.int .u64 0],.bool r,.bool node] w fun e w'=>e= .returned (.agg (qj .u32 (yJ false h I (lo:Nat) r node)))∧Below w.heap.size w w':=by
 obtain⟨o,q⟩:=Ex w.heap.size;have G:=ym 4 16 hz (by rw[hl]);obtain⟨M,Z⟩:=Ex (Q3 4 16 I);obtain⟨R,Y⟩:=Ex (yJ false h I (lo:Nat) r node);have af:Words 32 8 R:=by rw[←Y];exact QX false hh _ _ _ _
 have ab:Zl mixSmall IVs 10 h M ((lo:Nat)%4294967296) ((lo:Nat)/4294967296) r node=R:=by rw[←Y,←Z];rfl
 rw[Y];rw[Z]at G;have HM:=hid Z;have ah:=hid ab;have HL:=hid hl;have am:=hid aa;clear Z Y ab hl aa;have O:Below o w (((w.alloc (.cells (qj .u32 h) 284)).alloc (.cells #[.int .u64 lo,.int .u64 0] 281)).alloc (.cells Kf 284)):=by rw[←q];exact((Br.alloc Nl _).alloc (by simp) _).alloc (by simp;omega) _
 have an:(((w.alloc (.cells (qj .u32 h) 284)).alloc (.cells #[.int .u64 lo,.int .u64 0] 281)).alloc (.cells Kf 284)).heap.size=o+1+1+1:=by simp[q]
 have h0:(((w.alloc (.cells (qj .u32 h) 284)).alloc (.cells #[.int .u64 lo,.int .u64 0] 281)).alloc (.cells Kf 284)).heap[o]? =some (.cells (qj .u32 h) 284 (0,0)):=by
  rw[Bh _ _ _ (by simp[q];omega),Bh _ _ _ (by simp[q]),←q];exact Wn _ _
 have h1:(((w.alloc (.cells (qj .u32 h) 284)).alloc (.cells #[.int .u64 lo,.int .u64 0] 281)).alloc (.cells Kf 284)).heap[o+1]? =some (.cells #[.int .u64 lo,.int .u64 0] 281 (0,0)):=by
  rw[Bh _ _ _ (by simp[q]),show o+1=(w.alloc (.cells (qj .u32 h) 284)).heap.size by simp[q]];exact Wn _ _
 have h2:(((w.alloc (.cells (qj .u32 h) 284)).alloc (.cells #[.int .u64 lo,.int .u64 0] 281)).alloc (.cells Kf 284)).heap[o+1+1]? =some (.cells Kf 284 (0,0)):=by
  rw[show o+1+1=((w.alloc (.cells (qj .u32 h) 284)).alloc (.cells #[.int .u64 lo,.int .u64 0] 281)).heap.size by simp[q]];exact Wn _ _
 have HH:=hid (hH.mono_below O (by omega));clear hH;go_enter Tryz.func187,Tryz.ntmps187
 go_wp2_with fail
 generalize (((w.alloc (.cells (qj .u32 h) 284)).alloc (.cells #[.int .u64 lo,.int .u64 0] 281)).alloc (.cells Kf 284))=w0 at*;refine(qfu I v _ HH.out hz HL.out).mono ?_;rintro e w1 ⟨rfl,D⟩;rw[HM.out];have ai:=D.size;have k0:=qf h0 D;have k1:=qf h1 D;have k2:=qf h2 D;have ad:Below o w w1:=O.trans (D.mono (by omega));have aj:o+3≤w1.heap.size:=by omega
 clear h0 h1 h2 D O HH an ai;have K0:=hid k0;have K1:=hid k1;have K2:=hid k2;have ag:=hid hh;clear k0 k1 k2 hh hz;go_upto_region 2 with((with_reducible show wpList _ _ _ (Oper.mk none (Op.store 298 _ _) _ _ _ _::_) _ _);refine wpList_store_row rfl 298 _ _ rfl w1.heap.size (qj .u32 M) rfl rfl 298 _ (Wn _ _) (by rw[qg,G.1];kernel_rfl) (by rw[qg,G.1];rfl) qy ?_)
 refine qm ?_;intro W J;obtain⟨bv,U⟩:=Ex w1.heap.size;have g0:W.heap[o]? =some (.cells (qj .u32 h) 284 (0,0)):=by rw[J];exact(setRow_other (w1.alloc _) _ _ _ (by omega)).trans ((Bh _ _ _ (by omega)).trans K0.out)
 have g1:W.heap[o+1]? =some (.cells #[.int .u64 lo,.int .u64 0] 281 (0,0)):=by rw[J];exact(setRow_other (w1.alloc _) _ _ _ (by omega)).trans ((Bh _ _ _ (by omega)).trans K1.out)
 have g2:W.heap[o+1+1]? =some (.cells Kf 284 (0,0)):=by rw[J];exact(setRow_other (w1.alloc _) _ _ _ (by omega)).trans ((Bh _ _ _ (by omega)).trans K2.out)
 have g3:W.heap[bv]? =some (.cells (qj .u32 M) 298 (0,0)):=by rw[J,←U];exact setRow_heap _ _ _ _ _ _ (Wn _ _)
 have ae:Below o w W:=by rw[J];exact below_setRow (ad.alloc (by omega) _) (by omega) _
 rw[U];clear J ad U aj K0 K1 K2;have V:=hid af;have ac:=hid G;clear af G;have ak:=qd g1 0;go_wp2_with (first|((with_reducible show wpList _ _ _ (Oper.mk (some 18) _ _ _ _ _::_) _ _);refine wpList_load_row rfl 284 _ rfl o rfl _ _ _ _ g0 Tryz.underlying284 rfl (by rw[qg,ag.out.1];kernel_rfl) ?_)|((with_reducible show wpList _ _ _ (Oper.mk (some 19) _ _ _ _ _::_) _ _);refine wpList_load_row rfl 298 _ rfl bv rfl _ _ _ _ g3 Tryz.underlying298 rfl (by rw[qg,ac.out.1];kernel_rfl) ?_))
 refine(qjO h M ag.out ac.out (lo:Nat) (by omega) (by have:=am.out;omega) r node _).mono ?_;rintro e w2 ⟨rfl,X⟩;rw[ah.out];have j2:=qf g2 X;have al:Below o w w2:=ae.trans (X.mono (by have:=(Ai g2).1;omega));clear g0 g1 g2 g3 ae X ak;go_wp2_with ((with_reducible show wpList _ _ _ (Oper.mk none (Op.store 284 _ _) _ _ _ _::_) _ _);refine wpList_store_row rfl 284 _ _ rfl (o+1+1) (qj .u32 R) rfl rfl 284 _ j2 (by rw[qg,V.out.1];kernel_rfl) (by rw[qg,V.out.1];rfl) qy ?_)
 exact Bp (results_cell_row rfl _ _ (o+1+1) 284 _ _ _ rfl (setRow_heap _ _ _ _ _ _ j2) Tryz.underlying284 rfl (by rw[qg,V.out.1];kernel_rfl)) rfl ⟨rfl,by rw[q];exact below_setRow al (by omega) _⟩
def zY (h:List Int)(lo:Int)(hv:Value):Array Value:= #[.int .u64 (wd h 0),.int .u64 (wd h 1),.int .u64 (wd h 2),.int .u64 (wd h 3),.int .u64 (wd h 4),.int .u64 (wd h 5),.int .u64 (wd h 6),.int .u64 (wd h 7),.int .u64 lo,.int .u64 0,hv,.int .i64 128,.func (.func 184) #[] #[],.func (.func 185) #[] #[]]
def zX (h:List Int)(lo:Int)(hv:Value):Array Value:= #[.int .u32 (wd h 0),.int .u32 (wd h 1),.int .u32 (wd h 2),.int .u32 (wd h 3),.int .u32 (wd h 4),.int .u32 (wd h 5),.int .u32 (wd h 6),.int .u32 (wd h 7),.int .u64 lo,.int .u64 0,hv,.int .i64 64,.func (.func 187) #[] #[],.func (.func 188) #[] #[]]
theorem qgz (o:List Int)(v:Value)(w:World)(Z:Holds8 w v o)(hz: ∀z∈o,0≤z∧z≤255)(Y:o.length=64):
  Calls Tryz.prog 160 #[.int .i64 1,v] w fun e w'=> ∃p,e= .returned (.iface 277 (.pointer (some ⟨p,0,none⟩)))∧w.heap.size≤p∧w'.heap[p]? =some (.cells (zY (h0Z true o) 0 (.slice none 0 0)) 283 (0,0))∧Below w.heap.size w w':=by
 obtain⟨H,q⟩:=Ex (h0Z true o);have G:Words 64 8 H:=by rw[←q];exact Q0 true o
 have U:yF .u64 IVb 8 o=H:=by rw[←q];rfl
 rw[q];have aa:=hid U;clear q U;have V:=hid G;clear G;go_enter Tryz.func160,Tryz.ntmps160
 go_wp2_with fail
 refine(qfA o v _ Z hz Y).mono ?_;rintro e w1 ⟨rfl,I⟩;rw[aa.out];clear Z hz Y;go_upto_region 3 with((with_reducible show wpList _ _ _ (Oper.mk none (Op.store 274 _ _) _ _ _ _::_) _ _);refine wpList_store_row rfl 274 _ _ rfl w1.heap.size (qj .u64 H) rfl rfl 274 _ (Wn _ _) (by rw[qg,V.out.1];kernel_rfl) (by rw[qg,V.out.1];rfl) qy ?_)
 refine qm ?_;intro W X;obtain⟨bv,D⟩:=Ex w1.heap.size;have r:=I.size;have g3:W.heap[bv]? =some (.cells (qj .u64 H) 274 (0,0)):=by rw[X,←D];exact setRow_heap _ _ _ _ _ _ (Wn _ _)
 have O:Below w.heap.size w W:=by rw[X];exact below_setRow (I.alloc r _) r _
 rw[D];clear X;rw[Zp V.out]at g3;have J:=O.size;go_wp2_with (first|((with_reducible show wpList _ _ _ (Oper.mk (some 16) _ _ _ _ _::_) _ _);refine wpList_load_row rfl 274 _ rfl bv rfl _ _ _ _ g3 Tryz.underlying274 rfl (by kernel_rfl) ?_))
 go_ret
 exact⟨_,rfl,J,Wn _ _,O.alloc J _⟩
theorem qfi (o:List Int)(v:Value)(w:World)(Z:Holds8 w v o)(hz: ∀z∈o,0≤z∧z≤255)(Y:o.length=32):
  Calls Tryz.prog 160 #[.int .i64 2,v] w fun e w'=> ∃p,e= .returned (.iface 287 (.pointer (some ⟨p,0,none⟩)))∧w.heap.size≤p∧w'.heap[p]? =some (.cells (zX (h0Z false o) 0 (.slice none 0 0)) 291 (0,0))∧Below w.heap.size w w':=by
 obtain⟨H,q⟩:=Ex (h0Z false o);have G:Words 32 8 H:=by rw[←q];exact Q0 false o
 have U:yF .u32 IVs 4 o=H:=by rw[←q];rfl
 rw[q];have aa:=hid U;clear q U;have V:=hid G;clear G;go_enter Tryz.func160,Tryz.ntmps160
 go_wp2_with fail
 refine(qfB o v _ Z hz Y).mono ?_;rintro e w1 ⟨rfl,I⟩;rw[aa.out];clear Z hz Y;go_upto_region 5 with((with_reducible show wpList _ _ _ (Oper.mk none (Op.store 284 _ _) _ _ _ _::_) _ _);refine wpList_store_row rfl 284 _ _ rfl w1.heap.size (qj .u32 H) rfl rfl 284 _ (Wn _ _) (by rw[qg,V.out.1];kernel_rfl) (by rw[qg,V.out.1];rfl) qy ?_)
 refine qm ?_;intro W X;obtain⟨bv,D⟩:=Ex w1.heap.size;have r:=I.size;have g3:W.heap[bv]? =some (.cells (qj .u32 H) 284 (0,0)):=by rw[X,←D];exact setRow_heap _ _ _ _ _ _ (Wn _ _)
 have O:Below w.heap.size w W:=by rw[X];exact below_setRow (I.alloc r _) r _
 rw[D];clear X;rw[Zp V.out]at g3;have J:=O.size;go_wp2_with (first|((with_reducible show wpList _ _ _ (Oper.mk (some 25) _ _ _ _ _::_) _ _);refine wpList_load_row rfl 284 _ rfl bv rfl _ _ _ _ g3 Tryz.underlying284 rfl (by kernel_rfl) ?_))
 go_ret
 exact⟨_,rfl,J,Wn _ _,O.alloc J _⟩
structure Spare (S:Nat→Prop)(w w':World):Prop where
 os:w'.os=w.os
 tape:w'.tape=w.tape
 output:w'.output=w.output
 size:w.heap.size≤w'.heap.size
 block: ∀k,k<w.heap.size→S k→w'.heap[k]? =w.heap[k]?
namespace Spare
variable {S T:Nat→Prop} {w w' w'':World}
theorem refl (S:Nat→Prop)(w:World):Spare S w w:=⟨rfl,rfl,rfl,Nat.le_refl _,fun _ _ _=>rfl⟩
theorem trans (h:Spare S w w')(k:Spare T w' w'')(r: ∀b,b<w.heap.size→S b→T b):Spare S w w'':=
 ⟨k.os.trans h.os,k.tape.trans h.tape,k.output.trans h.output,Nat.le_trans h.size k.size,fun b o q=>(k.block b (Nat.lt_of_lt_of_le o h.size) (r b o q)).trans (h.block b o q)⟩
theorem of_below (S:Nat→Prop)(h:Below w.heap.size w w'):Spare S w w':=⟨h.os,h.tape,h.output,h.size,fun k o _=>h.block k o⟩
theorem below (h:Spare S w w'){B:Nat}(r:B≤w.heap.size)(o: ∀k,k<B→S k):Below B w w':=⟨h.os,h.tape,h.output,h.size,fun k q=>h.block k (by omega) (o k q)⟩
theorem of_but {b:Nat}(h:But b w w'):Spare (fun k=>k≠b) w w':=⟨h.os,h.tape,h.output,h.size,fun k q o=>h.block k q o⟩
theorem of_grown {b:Option Nat}(h:w.grownBy w' b):Spare (fun k=>b≠some k) w w':=⟨h.os,h.tape,h.output,h.size,fun k q o=>h.block k q (fun e=>o e.symm)⟩
end Spare
def Q1 (big:Bool)(w:World)(p:Nat)(hv:Value)(h0 msg:List Int):Prop:=
 w.heap[p]? =some (.cells (cond big zY zX (stZ big h0 msg (nbk (bB big) msg.length)) ((bB big*nbk (bB big) msg.length:Nat):Int) hv) (cond big 283 291) (0,0))∧
 w.ownsRow 0 5 1 hv (yj (bB big) msg).length ((yj (bB big) msg).map qo)
def zZ (p:Nat)(hv:Value):Nat→Prop:=fun k=>k≠p∧hv.ownBlock≠some k
theorem qdY (H:List Int)(lo:Int)(o:Value): ∀j,j<2→(zY H lo o)[8+j]? =(#[.int .u64 lo,.int .u64 0]:Array Value)[j]? :=by
 intro j q;rcases(show j=0∨j=1 by omega)with rfl|rfl<;>rfl
theorem qdX (H:List Int)(lo:Int)(o:Value): ∀j,j<2→(zX H lo o)[8+j]? =(#[.int .u64 lo,.int .u64 0]:Array Value)[j]? :=by
 intro j q;rcases(show j=0∨j=1 by omega)with rfl|rfl<;>rfl
theorem qiM {H:List Int}(r:Words 64 8 H)(lo:Int)(q:Value): ∀j,j<(qj .u64 H).size→(zY H lo q)[0+j]? =(qj .u64 H)[j]? :=by
 rw[Zp r];intro j o;have o:j<8:=o;rcases(show j=0∨j=1∨j=2∨j=3∨j=4∨j=5∨j=6∨j=7 by omega)with rfl|rfl|rfl|rfl|rfl|rfl|rfl|rfl<;>rfl
theorem qiL {H:List Int}(r:Words 32 8 H)(lo:Int)(q:Value): ∀j,j<(qj .u32 H).size→(zX H lo q)[0+j]? =(qj .u32 H)[j]? :=by
 rw[Zp r];intro j o;have o:j<8:=o;rcases(show j=0∨j=1∨j=2∨j=3∨j=4∨j=5∨j=6∨j=7 by omega)with rfl|rfl|rfl|rfl|rfl|rfl|rfl|rfl<;>rfl
theorem qgk (H:List Int)(lo o:Int)(q:Value):Ze (zY H lo q) 8 #[.int .u64 o,.int .u64 0]=zY H o q:=rfl
theorem qgj (H:List Int)(lo o:Int)(q:Value):Ze (zX H lo q) 8 #[.int .u64 o,.int .u64 0]=zX H o q:=rfl
theorem qhE {o:List Int}(h:Words 64 8 o)(H:List Int)(lo:Int)(q:Value):Ze (zY H lo q) 0 (qj .u64 o)=zY o lo q:=by rw[Zp h];rfl
theorem qhD {o:List Int}(h:Words 32 8 o)(H:List Int)(lo:Int)(q:Value):Ze (zX H lo q) 0 (qj .u32 o)=zX o lo q:=by rw[Zp h];rfl
def qjU (big:Bool)(w0:World)(S:Nat→Prop)(p:Nat)(hv0:Value)(h0 msg:List Int)(W:World):Prop:=
 ∃H lo hl hv,W.heap[p]? =some (.cells (cond big zY zX H ((lo:Nat):Int) hv) (cond big 283 291) (0,0))∧W.ownsRow 0 5 1 hv hl.length (hl.map qo)∧hl.length<bB big∧qgC big h0 msg H lo hl∧
  (hv.ownBlock=hv0.ownBlock∨ ∀g,hv.ownBlock=some g→w0.heap.size≤g)∧Spare S w0 W
theorem But.of_setRow (w:World)(p:Nat)(cs:Array Value):But p w (w.setRow p cs):=⟨rfl,rfl,rfl,by simp,fun k _ o=>setRow_other w p k cs o⟩
def qeQ:Value→Nat
 | .slice _ n _=>n
 | _=>0
theorem yM {W:World}{B n m:Nat}{e:TypeId}{a:Option Addr}{c:Nat}{xs:List Value}(h:W.ownsRow B e 1 (.slice a m c) n xs):m=n:=by
 rcases h.2 with⟨o,D⟩|⟨g,r,q,o, -⟩
 ·simp only[Value.slice.injEq]at o;omega
 ·simp only[Value.slice.injEq]at o;exact o.2.1
theorem Yy {W W':World}{p:Nat}{v:Value}{n:Nat}{xs:List Value}{c:Array Value}{T:TypeId}{fr:Nat×Nat}(h:W.ownsRow 0 5 1 v n xs)(I:But p W W')(O:W.heap[p]? =some (.cells c T fr))(U:T≠5):W'.ownsRow 0 5 1 v n xs:=by
 refine⟨h.1,?_⟩;rcases h.2 with o|⟨g,r,q,e,D,o,J⟩
 ·exact .inl o
 ·refine .inr ⟨g,r,q,e,D,?_,J⟩;have G:g<W.heap.size:=(Ai o).1;rw[I.block g G ?_];exact o;rintro rfl
  rw[O]at o;simp only[Option.some.injEq,Obj.cells.injEq]at o;exact U o.2.1
theorem jq {W:World}{a:Option Addr}{m c n:Nat}{xs:List Value}(h:W.ownsRow 0 5 1 (.slice a m c) n xs)(o:n≠0): ∃g,a=some ⟨g,0,none⟩:=by
 rcases h.2 with⟨-,q⟩|⟨g,D,r,e, -⟩
 ·exact absurd q o
 ·simp only[Value.slice.injEq]at e;exact⟨g,e.1⟩
theorem qeH {W:World}{g m c n:Nat}{xs:List Value}(h:W.ownsRow 0 5 1 (.slice (some ⟨g,0,none⟩) m c) n xs):W.ownsRow 0 5 1 (.slice (some ⟨g,0,none⟩) 0 c) 0 []:=by
 refine⟨rfl,?_⟩;rcases h.2 with⟨o, -⟩|⟨O,I,q,e,r,o,J,D,G,U⟩
 ·simp at o
 ·simp only[Value.slice.injEq,Option.some.injEq,Addr.mk.injEq,and_true,true_and]at e;obtain⟨rfl, -,rfl⟩:=e;exact .inr ⟨g,c,q,rfl,r,o,Nat.zero_le _,D,G,rfl⟩
theorem qdM {W:World}{p:Nat}{v:Value}{n:Nat}{xs:List Value}{c:Array Value}{T:TypeId}{fr:Nat×Nat}(h:W.ownsRow 0 5 1 v n xs)(q:W.heap[p]? =some (.cells c T fr))(r:T≠5):some p≠v.ownBlock:=by
 rcases h.2 with⟨rfl, -⟩|⟨g,G,D,rfl,I,o,J⟩
 ·intro e;cases e
 ·intro e;simp only[Value.ownBlock,Option.some.injEq]at e;subst e;rw[q]at o;simp only[Option.some.injEq,Obj.cells.injEq]at o;exact r o.2.1
theorem qc8 {w:World}{a:Option Addr}{n c k:Nat}{zs:List Int}(h:Hold w (.slice a n c) zs)(r:k≤zs.length):Hold w (.slice a k c) (zs.take k):=by
 refine⟨fun z G=>h.1 z (List.mem_of_mem_take G),?_⟩;rcases h.2 with⟨rfl,e⟩|⟨I,O,e,U,D,o⟩
 ·simp only[Value.slice.injEq]at e;obtain⟨rfl, -,rfl⟩:=e;obtain rfl:k=0:=by simpa using r
  exact .inl ⟨rfl,rfl⟩
 ·simp only[Value.slice.injEq]at e;obtain⟨rfl, -,rfl⟩:=e;refine .inr ⟨I,c,by simp[List.length_take,Nat.min_eq_left r],by simp;omega,D,?_⟩;rcases o with o|⟨b,off,rfl,o,J⟩
  ·exact .inl (by rw[o];simp)
  ·refine .inr ⟨b,off,rfl,o,fun i hi=>?_⟩;have q:i<k:=by simp at hi;omega
   rw[J i (by omega)];simp[qp,Lg,q]
theorem zV {w J O:World}{b v:Value}{zs bs:List Int}{S:Nat→Prop}(h:Hold O b zs)(hv:Hold w v bs)(Y:b.ownBlock=v.ownBlock)(h1:Spare S w O)(X:Spare S w J)(V: ∀k,v.ownBlock=some k→S k)(G:bs≠[]):Hold J b zs:=by
 refine⟨h.1,?_⟩;rcases h.2 with h2|⟨ad,Z,rfl,h3,h4,D⟩
 ·exact .inl h2
 ·refine .inr ⟨ad,Z,rfl,h3,h4,?_⟩;rcases D with D|⟨U,off,rfl,D,h7⟩
  ·exact .inl D
  ·have I:v.ownBlock=some U:=Y.symm;rcases hv.2 with⟨q, -⟩|⟨ab,aa,rfl, -, -,q⟩
   ·exact absurd q G
   obtain⟨o,o8,rfl,q, -⟩:=q.resolve_left G;obtain rfl:o=U:=by simpa [Value.ownBlock] using I
   have r:o<w.heap.size:=q;refine .inr ⟨o,off,rfl,Nat.lt_of_lt_of_le r X.size,fun i hi=>?_⟩;have e1:J.heap[o]? =O.heap[o]? :=(X.block o r (V o I)).trans (h1.block o r (V o I)).symm;rw[←h7 i hi];exact World.cell?_of_block e1
theorem qax {w:World}{a:Option Addr}{n c:Nat}{zs:List Int}(h:Hold w (.slice a n c) zs)(o:zs≠[]): ∃b off,a=some ⟨b,off,none⟩:=by
 rcases h.2 with⟨r, -⟩|⟨G,D,e, -, -,q⟩
 ·exact absurd r o
 ·obtain⟨b,off,rfl, -⟩:=q.resolve_left o;simp only[Value.slice.injEq]at e;exact⟨b,off,e.1⟩
theorem jT {w:World}{a r:Option Addr}{n c k D o:Nat}{zs:List Int}(h:Hold w (.slice a n c) zs)(hk:k≤zs.length)(G:D=zs.length - k)(hc:o=c - k)(b off:Nat)(O:a=some ⟨b,off,none⟩)(I:r=some ⟨b,off+k,none⟩∨r=a∧c=k):Hold w (.slice r D o) (zs.drop k):=by
 subst O;refine⟨fun z U=>h.1 z (List.mem_of_mem_drop U),?_⟩;rcases h.2 with⟨rfl,e⟩|⟨ad,Z,e,h1,h2,q⟩
 ·simp at e
 ·simp only[Value.slice.injEq,Option.some.injEq]at e;obtain⟨rfl, -,rfl⟩:=e;rcases I with rfl|⟨rfl,Y⟩
  ·refine .inr ⟨⟨b,off+k,none⟩,o,by simp[G],by simp;omega,by omega,?_⟩;rcases q with rfl|⟨b',V,e,q,X⟩
   ·exact .inl (by simp)
   ·simp only[Addr.mk.injEq,and_true]at e;obtain⟨rfl,rfl⟩:=e;refine .inr ⟨b,off+k,rfl,q,fun i hi=>?_⟩;have J:k+i<zs.length:=by simp at hi;omega
    have:=X (k+i) J
    rw[←Nat.add_assoc]at this;rw[this];simp[qp,Lg]
  ·refine .inr ⟨⟨b,off,none⟩,o,by simp[G],by simp;omega,by omega,.inl ?_⟩;exact List.drop_of_length_le (by omega)
theorem qbq (h0 af O:List Int)(hh:Words 64 8 h0)(hm: ∀z∈af,0≤z∧z≤255)(p:Nat)(hv v:Value)(w:World)(hE:Q1 true w p hv h0 af)(hH:Hold w v O)(hF:O≠[]→ ∀b,v.ownBlock=some b→zZ p hv b)(cU:(af.length:Int)+O.length≤140737488355328):
  Calls Tryz.prog 260 #[.pointer (some ⟨p,0,none⟩),v] w fun e w'=>e= .returned (.tuple #[])∧(∃ak,Q1 true w' p ak h0 (af++O)∧(ak.ownBlock=hv.ownBlock∨ ∀g,ak.ownBlock=some g→w.heap.size≤g))∧Spare (zZ p hv) w w':=by
 obtain⟨i0,hi,co,cy,cv⟩:=info_parts Ql;have dd:p<w.heap.size:=(Ai hE.1).1;have cO:=hid hh;have cr:=hid hm;have HE:=hid hE;have HH:=hid hH;have HF:=hid hF;have bE:=hH.1;have HZ:=hid bE;clear hh hm hE hH hF bE;obtain⟨S,hS⟩:=Ex (zZ p hv);have HS:=hid hS;rw[hS];clear hS;go_enter Tryz.func260,Tryz.ntmps260
 go_wp2_with fail
 go_loopw [1] (fun b wr=> ∃j:Nat,j≤O.length∧Hold wr b (O.drop j)∧b.ownBlock=v.ownBlock∧(∃ak,Q1 true wr p ak h0 (af++O.take j)∧(ak.ownBlock=hv.ownBlock∨ ∀g,ak.ownBlock=some g→w.heap.size≤g))∧Spare S w wr) (fun b _=>qeQ b)
 case atStart=>exact⟨0,Nat.zero_le _,by simpa using HH.out,rfl,⟨hv,by simpa using HE.out,.inl rfl⟩,Spare.refl _ _⟩
 case round=>
  obtain⟨j,hj,bo,bH,⟨cD,ce,aN⟩,bO⟩:=hrel;have cQ:=hid bo;have an:=hid bO;have bd:=hid ce;have aP:=hid bH;have ao:=hid aN;obtain⟨ab,cb,rfl,ck,cS⟩:=bo.slice;clear bo bO ce bH aN;by_cases ad:j<O.length
  case neg=>
   obtain rfl:j=O.length:=by omega
   have aF:(O.drop O.length).length=0:=by simp
   rw[aF]at*;go_wp2
   go_end0
   have h1:=bd.out;rw[List.take_length]at h1;exact⟨rfl,⟨cD,h1,ao.out⟩,an.out⟩
  have bU:(O.drop j).length=O.length - j:=by simp
  have cA:0<(O.drop j).length:=by omega
  have q:((O.drop j).length:Int)≤140737488355328:=by omega
  obtain⟨m1,aE⟩:=Ex (af++O.take j);have di:m1.length≤140737488355328:=by rw[←aE];simp;omega
  have aY: ∀z∈m1,0≤z∧z≤255:=by
   rw[←aE];intro z hz;rcases List.mem_append.1 hz with hz|hz
   ·exact cr.out z hz
   ·exact HZ.out z (List.mem_of_mem_take hz)
  have c6:=hid aY;have cp:=hid bU;have cf:=bd.out;rw[aE]at cf;have cJ:=hid aE;obtain⟨N,hN⟩:=Ex ((O.drop j).length);rw[hN]at cA q ck⊢;have HN:=hid hN;have be:=JY (YY true) m1;have b6:=qcZ true h0 m1;have bw:=qc0 true h0 m1;have bh:=ju (YY true) m1;have b3:=zL (n:=bB true) aY;have bW:=Yk true cO.out m1 (nbk (bB true) m1.length);obtain⟨Z,aw⟩:=cf;simp only[cond]at Z;generalize stZ true h0 m1 (nbk (bB true) m1.length)=H1 at*;generalize bB true*nbk (bB true) m1.length=G at*;generalize yj (bB true) m1=hl at*;rw[show bB true=128 from rfl]at bw bh;obtain⟨a1,n1,c1,rfl⟩:=qs aw;have cz:n1=hl.length:=yM aw;subst cz;have aR:=hid b6;have ap:=hid bw;have a8:=hid be;have bV:=hid b3;have ay:=hid bW;have bj:=hid Z;have bu:=hid aw;have al:wr.cell? ⟨p,10,none⟩=some (.slice a1 hl.length c1):=qd Z 10;have aO:wr.cell? ⟨p,11,none⟩=some (.int .i64 128):=qd Z 11;have aA:=frozen_of_row wr p 10 _ _ Z;have ca:=frozen_of_row wr p 11 _ _ Z;clear Z aw bW b3 be bw b6 aE aY bU hN;go_upto_region 1 with(fail)
  obtain⟨tb,aG⟩: ∃tb,((hl.length:Int)==128)=tb:=⟨_,rfl⟩;go_quiet (fail)
  go_upto_if 17 with(fail)
  go_cut [1] from 4 (fun b W=>b= .slice ab N cb∧qjU true w S p hv h0 m1 W)
  case first=>
   have au:Below wr.heap.size wr (wr.drewN nq):=QU nq;have ah:=qf bj.out au;have av:=qi bu.out (fun g _ hg=>au.block g hg);have ac:Spare S w (wr.drewN nq):=an.out.trans (Spare.of_below S au) (fun _ _ h=>h);clear au al aO aA ca;generalize wr.drewN nq=W2 at*
   cases tb
   case false=>
    have HT:=hid aG;clear aG;go_wp2
    go_meet
    case rel=>exact⟨rfl,H1,G,hl,_,ah,av,by have:=beq_eq_false_iff_ne.1 HT.out;show hl.length<128;omega,aR.out,ao.out,ac⟩
   have ag:hl.length=128:=by have:=eq_of_beq aG;omega
   clear aG;have bY:=hid ag;have bZ:=ap.out ag;have b7:G+128<9223372036854775808:=by have:=a8.out;omega
   have b0:=hid b7;rw[ag]at ah;clear ag bh ap;have ap:=hid bZ;have aa:=hid ah;have aD:=hid av;have b9:=hid ac;clear bZ ah av ac b7;have ch:p<W2.heap.size:=(Ai aa.out).1;go_upto_region 2 with(fail)
   refine yl (fun f W=>(f=false→Below W2.heap.size W2 W)∧(f=true→W.heap[p]? =some (.cells (zY H1 ((G+128:Nat):Int) (.slice a1 128 c1)) 283 (0,0))∧But p W2 W)) 16 [.z 19 p 0,.z 20 p 0,.z 21 p 0,.z 22 p 8,.v 23 (.agg #[.int .u64 G,.int .u64 0]),.z 24 p 0,.z 25 p 0,.z 26 p 11,.v 27 (.int .i64 128),.v 28 (.int .u64 128),.v 29 (.tuple #[.agg #[.int .u64 ((G+128:Nat):Int),.int .u64 0],.bool false]),.v 18 (.tuple #[.agg #[.int .u64 ((G+128:Nat):Int),.int .u64 0],.bool false]),.v 30 (.agg #[.int .u64 ((G+128:Nat):Int),.int .u64 0]),.v 31 (.bool false),.z 32 p 0,.z 33 p 8,.f none [] (fun _ _=>True)] (by exact⟨fun _ _ _ _ h=>h,trivial⟩) ⟨fun _=>Br.drew,fun h=>(by cases h)⟩ (fun f W W' h J=>⟨fun e=>(h.1 e).trans (J.mono (h.1 e).size),fun e=>⟨qf (h.2 e).1 J,(h.2 e).2.trans (But.of_below J)⟩⟩) ?_ ?_ ?_
   ·repeat' (with_reducible first|exact qB|refine qw ?_ ?_)
    all_goals try
     refine .inr ?_;intro A x W f r V hf o D K I;have a0:=r.2 0 (by decide);conv at a0=>rhs;whnf
     simp only[Q7,yk]at D;clear o r;go_simp
     exact I _ _ BR rfl
    any_goals exact .inl rfl
    all_goals refine .inr ?_
    ·intro A x W f r V hf o _ K I;have cI:=gw r o 3 22;clear o r;have az:f=false:=hf (by kernel_rfl);have U:=qf aa.out (V.1 az);refine Qs 281 _ rfl p 8 cI 283 _ #[.int .u64 G,.int .u64 0] (0,0) _ U Tryz.underlying281 rfl (by kernel_rfl) (qdY _ _ _) (I _ _ Br rfl)
    ·intro A x W f r V hf o _ K I;have dh:=gw r o 7 26;clear o r;have az:f=false:=hf (by kernel_rfl);have U:=qf aa.out (V.1 az);have c0:W.cell? ⟨p,11,none⟩=some (.int .i64 128):=qd U 11;go_simp
     exact I _ _ BR rfl
    ·intro A x W f r V hf o _ K I;have c9:=gw r o 4 23;have c4:=gw r o 9 28;clear o r;go_simp
     refine(qd4 G 128 b0.out _).mono ?_;rintro e w' ⟨rfl,J⟩;exact I _ _ J rfl
   ·intro A x W r V o K I;have cM:=gw r o 15 33;have cP:=gw r o 12 30;clear o r;have U:=qf aa.out (V.1 rfl);refine Zs 281 _ _ rfl p 8 #[.int .u64 ((G+128:Nat):Int),.int .u64 0] cM cP 283 _ U (by kernel_rfl) (by simp[zY]) (by simp[Value.oneCell']) ?_;rw[qgk];refine I _ _ (fun _=>rfl) ⟨fun h=>(by cases h),fun _=>⟨setRow_heap _ _ _ _ _ _ U,(But.of_below (V.1 rfl)).trans (But.of_setRow _ _ _)⟩⟩ ⟨.inr (fun _ h=>h),.inr (fun _ h=>h),.inr (fun _ h=>h),.inr (fun _ h=>h),.inr (fun _ h=>h),.inr (fun _ h=>h),.inr (fun _ h=>h),.inr (fun _ h=>h),.inr (fun _ h=>h),.inr (fun _ h=>h),.inr (fun _ h=>h),.inr (fun _ h=>h),.inr (fun _ h=>h),.inr (fun _ h=>h),.inr (fun _ h=>h),.inr (fun _ h=>h),.inl rfl,trivial⟩ trivial
   intro x W V ai;obtain⟨cg, -⟩:=ai;simp only[QP,Act.put,Ls];obtain⟨bN,aM⟩:=V.2 rfl;have cw:=aM.size;have a7:W.ownsRow 0 5 1 (.slice a1 128 c1) 128 (hl.map qo):=by
    have h1:=aD.out;rw[bY.out]at h1;exact Yy h1 aM aa.out (by decide)
   have bi:Spare S w W:=b9.out.trans (Spare.of_but aM) (fun b _ J=>by have h2:=HS.out;subst h2;exact J.1);have bM:Holds8 W (.slice a1 128 c1) hl:=yf a7;have ae:=hid bN;have bK:=hid a7;have bA:=hid bi;have b5:=hid bM;clear cg V bN aM a7 bi bM x aa aD b9 cw ch;generalize W=W3 at*;clear W2;go_upto_region 3 with(fail)
   obtain⟨H2,ba⟩:=Ex (yJ true H1 hl ((G+128:Nat):Int) false false);have bL:Words 64 8 H2:=by rw[←ba];exact QX true ay.out _ _ _ _
   have bq:=qeO H1 hl ay.out (.slice a1 128 c1) (G+128) (by have:=b0.out;omega) false false;have aI:=ap.out;rw[ba]at bq aI;have bF:=hid bq;have cl:=hid aI;have bm:=hid bL;clear bq ba aI bL ap;have cm:p<W3.heap.size:=(Ai ae.out).1;refine qI (n:=18) (w0:=W3) (B:=W3.heap.size) [.z 34 p 0,.z 35 p 0,.z 36 p 0,.z 37 p 12,.v 38 (.func (.func 184) #[] #[]),.z 39 p 0,.z 40 p 0,.z 41 p 0,.v 42 (.agg (qj .u64 H1)),.z 43 p 0,.z 44 p 0,.z 45 p 10,.v 46 (.slice a1 128 c1),.z 47 p 0,.z 48 p 0,.z 49 p 8,.v 50 (.agg #[.int .u64 ((G+128:Nat):Int),.int .u64 0]),.v 51 (.agg (qj .u64 H2))] trivial Br.drew Nl ?_ ?_
   ·repeat' (with_reducible first|exact qB|refine qw ?_ ?_)
    all_goals try
     intro A x W r hW am o D K I;have a0:=r.2 0 (by decide);conv at a0=>rhs;whnf
     simp only[Q7,yk]at D;clear o r;go_simp
     exact I _ _ BR rfl
    ·intro A x W r hW am o _ K I;have cX:=gv r o 3 37;clear o r;have U:=qf ae.out hW;have c0:W.cell? ⟨p,12,none⟩=some (.func (.func 184) #[] #[]):=qd U 12;go_simp
     exact I _ _ BR rfl
    ·intro A x W r hW am o _ K I;have cx:=gv r o 7 41;clear o r;have U:=qf ae.out hW;refine Qs 274 _ rfl p 0 cx 283 _ (qj .u64 H1) (0,0) _ U Tryz.underlying274 rfl (by rw[qg,ay.out.1];kernel_rfl) (qiM ay.out _ _) (I _ _ Br rfl)
    ·intro A x W r hW am o _ K I;have c5:=gv r o 11 45;clear o r;have U:=qf ae.out hW;have c0:W.cell? ⟨p,10,none⟩=some (.slice a1 128 c1):=qd U 10;go_simp
     exact I _ _ BR rfl
    ·intro A x W r hW am o _ K I;have cC:=gv r o 15 49;clear o r;have U:=qf ae.out hW;refine Qs 281 _ rfl p 8 cC 283 _ #[.int .u64 ((G+128:Nat):Int),.int .u64 0] (0,0) _ U Tryz.underlying281 rfl (by kernel_rfl) (qdY _ _ _) (I _ _ Br rfl)
    ·intro A x W r hW am o _ K I;have cY:=gv r o 4 38;have cZ:=gv r o 8 42;have de:=gv r o 12 46;have dc:=gv r o 16 50;clear o r;go_simp
     refine(bF.out _ (b5.out.mono_below hW Nl) bV.out bY.out).mono ?_;rintro e w' ⟨rfl,J⟩;exact I _ _ J rfl
   intro x W hW am ai;clear ai;refine qr ?_;simp only[QP,Act.put,Ls];have aV:=qf ae.out hW;have bz:But p W3 W:=But.of_below hW;clear hW am x;go_wp2_with fail
   refine qr ?_;go_wp2_with fail
   refine qr ?_;refine z9 rfl 274 _ _ rfl p 0 (qj .u64 H2) rfl rfl 283 _ aV (by rw[qg,bm.out.1];kernel_rfl) (by rw[qg,bm.out.1];simp[zY]) qy ?_;rw[qhE bm.out];refine qv ?_;have aC:=setRow_heap W p _ (zY H2 ((G+128:Nat):Int) (.slice a1 128 c1)) _ _ aV;have aU:=bz.trans (But.of_setRow W p (zY H2 ((G+128:Nat):Int) (.slice a1 128 c1)));generalize W.setRow p (zY H2 ((G+128:Nat):Int) (.slice a1 128 c1))=W5 at*;have bD:=Yy bK.out aU ae.out (by decide);have a6:Spare S w W5:=bA.out.trans (Spare.of_but aU) (fun b _ J=>by have h2:=HS.out;subst h2;exact J.1);have a5:=hid bD;have cB:=hid a6;have bR:=hid aC;clear aV bz aU bD a6 bF bK bA ae b5 W cm W3;obtain⟨g1,rfl⟩:=jq a5.out (by decide);obtain⟨cu, -, -, -, -,aF,bv⟩:=zb a5.out;have bx:(c1:Int)≤9223372036854775807:=by unfold maxLen at bv;omega
   have aS:128≤(c1:Int):=by omega
   have al:W5.cell? ⟨p,10,none⟩=some (.slice (some ⟨g1,0,none⟩) 128 c1):=qd aC 10;have aA:=frozen_of_row W5 p 10 _ _ aC;have cW:p<W5.heap.size:=(Ai aC).1;clear aC bv;go_wp2
   go_meet
   case rel=>
    have aj:But p W5 (W5.setCell ⟨p,10,none⟩ (.slice (some ⟨g1,0,none⟩) 0 c1)):=(But.refl p W5).set 10 _;exact⟨rfl,H2,G+128,[],.slice (some ⟨g1,0,none⟩) 0 c1,heap_setCell_same W5 p 10 _ _ _ bR.out,qeH (Yy a5.out aj bR.out (by decide)),by show 0<128;decide,cl.out,ao.out,cB.out.trans (Spare.of_but aj) (fun b _ J=>by have h2:=HS.out;subst h2;exact J.1)⟩
  case rest=>
   clear al aO aA ca aG tb nq bj bu ay bV a8 ap aR bh bd;obtain⟨rfl,H2,bP,q,dg,aq,aQ,bf,aW,bg,ac⟩:=hcut;have ci:=an;clear ao an;simp only[cond]at aq;have cR:q.length<128:=bf;obtain⟨a2,n2,c2,rfl⟩:=qs aQ;obtain rfl:n2=q.length:=yM aQ;obtain⟨k,hk⟩:=Ex (min N (128 - q.length));have HK:=hid hk;have aa:=hid aq;have aD:=hid aQ;have aR:=hid aW;have ao:=hid bg;have an:=hid ac;clear hk aQ aW bg ac bf;have al:wc.cell? ⟨p,10,none⟩=some (.slice a2 q.length c2):=qd aq 10;have aO:wc.cell? ⟨p,11,none⟩=some (.int .i64 128):=qd aq 11;have cN:p<wc.heap.size:=(Ai aq).1;clear aq;go_upto_region 5 with(fail)
   go_quiet (fail)
   rw[show min (N:Int) (128 - (q.length:Int))=(k:Int) from by have:=HK.out;omega];have aj:Below wc.heap.size wc (wc.drewN nq):=QU nq;have aT:=qf aa.out aj;have bI:=qi aD.out (fun g _ hg=>aj.block g hg);have aL:Spare S w (wc.drewN nq):=an.out.trans (Spare.of_below S aj) (fun _ _ h=>h);clear aj al aO aa aD an cN;generalize wc.drewN nq=W6 at*;clear wc;have bn:Hold W6 (.slice ab N cb) (O.drop j):=by
    have h1:=HH.out;have h2:=cQ.out;have Y:=aP.out;rw[HN.out]at h2 Y;exact zV h2 HH.out Y ci.out aL (fun b J=>by have h4:=HS.out;subst h4;exact HF.out (fun e=>by rw[e]at ad;simp at ad) b J) (fun e=>by rw[e]at ad;simp at ad)
   obtain⟨X,hX⟩:=Ex ((O.drop j).take k);have aF:1≤k∧k≤N∧q.length+k≤128:=by have:=HK.out;omega
   have br:X.length=k:=by rw[←hX,List.length_take,HN.out];omega
   have aZ:Hold W6 (.slice ab k cb) X:=by rw[←hX];exact qc8 bn (by rw[HN.out];omega)
   have bp:=aZ.src;rw[br]at bp;have HX:=hid hX;have a9:=hid br;have c7:=hid aZ;have cn:=hid bp;have bG:=hid bn;have bQ:=hid aT;have cL:=hid bI;have aK:=hid aL;have cV:p<W6.heap.size:=(Ai aT).1;obtain⟨aF,bv,bx⟩:=aF;have aS:(k:Int)≤N∧(k:Int)≤cb∧1≤(k:Int):=by omega
   obtain⟨aS,df,db⟩:=aS;clear hX br aZ bp bn aT bI aL;go_upto_region 6 with(fail)
   refine Yt (n:=9) (fun f W=>(f=false→Below W6.heap.size W6 W)∧(f=true→W.heap[p]? =some (.cells (zY H2 ((bP:Nat):Int) (.slice a2 q.length c2)) 283 (0,0))∧Spare (fun b=>(Value.slice a2 q.length c2).ownBlock≠some b) W6 W)) 8 [.z 75 p 0,.z 76 p 0,.z 77 p 0,.z 78 p 10,.v 79 (.slice a2 q.length c2),.v 80 (.slice ab N cb),.v 81 (.int .i64 k),.v 82 (.slice ab k cb),.p 83 (fun u W=>W.ownsRow 0 5 1 u (q.length+k) ((q++X).map qo)∧(u.ownBlock=(Value.slice a2 q.length c2).ownBlock∨ ∀g,u.ownBlock=some g→W6.heap.size≤g))] (by exact⟨(fun W W' J u h=>⟨qi h.1 (fun g _ hg=>J.block g hg),h.2⟩),trivial⟩) ⟨fun _=>Br.drew,fun h=>(by cases h)⟩ (fun f W W' h J=>⟨fun e=>(h.1 e).trans (J.mono (h.1 e).size),fun e=>⟨qf (h.2 e).1 J,(h.2 e).2.trans (Spare.of_below _ J) (fun _ _ h=>h)⟩⟩) ?_ ?_ ?_
   ·repeat' (with_reducible first|exact qB|refine qw ?_ ?_)
    all_goals try
     refine .inr ?_;intro A x W f r V hf o D K I;have a0:=r.2 0 (by decide);conv at a0=>rhs;whnf
     have a1:=r.2 1 (by decide);conv at a1=>rhs;whnf
     have a4:=r.2 4 (by decide);conv at a4=>rhs;whnf
     simp only[Q7,yk]at D;clear o r;go_simp
     exact I _ _ BR rfl
    any_goals exact .inl rfl
    all_goals refine .inr ?_
    ·intro A x W f r V hf o _ K I;have c8:=gw r o 3 78;clear o r;have az:f=false:=hf (by kernel_rfl);have U:=qf bQ.out (V.1 az);have c0:W.cell? ⟨p,10,none⟩=some (.slice a2 q.length c2):=qd U 10;go_simp
     exact I _ _ BR rfl
   ·intro A x W r V o K I;have ct:=gw r o 4 79;have cF:=gw r o 7 82;clear o r;have hB:=V.1 rfl;have ho:=qi cL.out (fun g _ hg=>hB.block g hg);have U:=qf bQ.out hB;refine YM _ _ 24 rfl 0 5 i0 (.int .u8 0) 1 Tryz.underlying24 hi co cy cv rfl (.slice a2 q.length c2) q.length (q.map qo) ct ho (.slice ab k cb) k (X.map qo) cF (cn.out.below hB) (by unfold maxLen;omega) (by omega) (Nat.zero_le _) ?_;intro v' w' h1 h2 Y;have h4:w'.heap[p]? =some (.cells (zY H2 ((bP:Nat):Int) (.slice a2 q.length c2)) 283 (0,0)):=(h2.block p (Ai U).1 (qdM ho U (by decide))).trans U;rw[←List.map_append]at h1;refine I v' w' (fun h=>by cases h) ⟨fun h=>(by cases h),fun _=>⟨h4,(Spare.of_below _ hB).trans (Spare.of_grown h2) (fun _ _ h=>h)⟩⟩ ⟨.inr (fun _ h=>h),.inr (fun _ h=>h),.inr (fun _ h=>h),.inr (fun _ h=>h),.inr (fun _ h=>h),.inr (fun _ h=>h),.inr (fun _ h=>h),.inr (fun _ h=>h),.inl rfl,trivial⟩ ⟨h1,?_⟩;rcases Y with Y|Y
    ·exact .inl Y
    ·refine .inr fun g hg=>?_
     rw[Y]at hg;cases hg;exact hB.size
   intro x W V ai;obtain⟨ar, -⟩:=ai;change ((fun u W=>W.ownsRow 0 5 1 u (q.length+k) ((q++X).map qo)∧(u.ownBlock=(Value.slice a2 q.length c2).ownBlock∨ ∀g,u.ownBlock=some g→W6.heap.size≤g))) (x 83) W at ar
   obtain⟨aB,bc⟩:=V.2 rfl;obtain⟨ax,aJ⟩:=ar;obtain⟨a3,n3,c3,ar⟩:=qs ax;rw[ar]at ax aJ;obtain rfl:n3=q.length+k:=yM ax;refine qr ?_;simp only[QP,Act.put,Ls,ar];clear ar;have al:W.cell? ⟨p,10,none⟩=some (.slice a2 q.length c2):=qd aB 10;have aA:=frozen_of_row W p 10 _ _ aB;have cj:p<W.heap.size:=(Ai aB).1;have bX:=hid aB;have cq:=hid ax;have cH:=hid aJ;have bk:=hid bc;clear aB ax aJ bc V;go_wp2_with fail
   refine qr ?_;go_wp2_with fail
   refine qr ?_;go_wp2_with fail
   refine qv ?_;obtain⟨bb,ob,rfl⟩:=qax bG.out (fun e=>by have:=HN.out;rw[e]at this;simp at this;omega);have bl:But p W (W.setCell ⟨p,10,none⟩ (.slice a3 (q.length+k) c3)):=(But.refl p W).set 10 _;have cK:=hid (heap_setCell_same W p 10 _ _ (.slice a3 (q.length+k) c3) bX.out);have cE:=hid (Yy cq.out bl bX.out (by decide));have aH:Spare S w (W.setCell ⟨p,10,none⟩ (.slice a3 (q.length+k) c3)):=by
    refine(aK.out.trans bk.out ?_).trans (Spare.of_but bl) (fun b _ J=>by have h2:=HS.out;subst h2;exact J.1);intro b da au;have h2:=HS.out;subst h2;rcases ao.out with Y|Y
    ·rw[Y];exact au.2
    ·intro e;have:=Y b e;omega
   have bT:Hold (W.setCell ⟨p,10,none⟩ (.slice a3 (q.length+k) c3)) (.slice (some ⟨bb,ob,none⟩) N cb) (O.drop j):=by
    have Y:=aP.out;exact zV bG.out HH.out Y aK.out aH (fun b J=>by have h4:=HS.out;subst h4;exact HF.out (fun e=>by rw[e]at ad;simp at ad) b J) (fun e=>by rw[e]at ad;simp at ad)
   have aX:=hid aH;have cG:=hid bT;clear bl aH bT al aA cj;have cT:W6.heap.size≤(W.setCell ⟨p,10,none⟩ (.slice a3 (q.length+k) c3)).heap.size:=by have:=bk.out.size;simpa [World.setCell] using this
   generalize W.setCell ⟨p,10,none⟩ (.slice a3 (q.length+k) c3)=W8 at*;have cc:j+k≤O.length:=by have:=cp.out;have:=HN.out;omega
   have bS:Q1 true W8 p (.slice a3 (q.length+k) c3) h0 (af++O.take (j+k)):=by
    have e0:af++O.take (j+k)=m1++X:=by rw[←cJ.out,←HX.out,List.append_assoc,List.take_add]
    obtain⟨e1,e2,e3⟩:=aR.out X (by rw[a9.out];omega) (by rw[a9.out];exact bx);rw[e0];unfold Q1;rw[e1,e2,e3];exact⟨cK.out,(show(q++X).length=q.length+k by rw[List.length_append,a9.out])▸cE.out⟩
   have b4:(Value.slice a3 (q.length+k) c3).ownBlock=hv.ownBlock∨ ∀g,(Value.slice a3 (q.length+k) c3).ownBlock=some g→w.heap.size≤g:=by
    rcases cH.out with Y|Y
    ·rw[Y];exact ao.out
    ·exact .inr fun g hg=>Nat.le_trans aK.out.size (Y g hg)
   have cd:=hid bS;have b8:=hid b4;have bC:=hid (fun(a':Option Addr) (n' c':Nat) (hn:n'=(O.drop j).length - k) (hc:c'=cb - k) (h:a'=some ⟨bb,ob+k,none⟩∨a'=some ⟨bb,ob,none⟩∧cb=k)=>(show Hold W8 (.slice a' n' c') (O.drop (j+k)) by rw[←List.drop_drop];exact jT cG.out (k:=k) (by have:=HN.out;omega) hn hc bb ob rfl h));clear bS b4;by_cases bJ:cb=k
   case pos=>
    have bt:=bJ;go_wp2
    refine⟨⟨j+k,cc,bC.out _ _ _ (by rw[HN.out]) (by omega) (.inr ⟨rfl,bt⟩),aP.out,⟨_,cd.out,b8.out⟩,aX.out⟩,?_⟩;show N - k<N
    omega
   case neg=>
    have bt:=bJ;go_wp2
    refine⟨⟨j+k,cc,bC.out _ _ _ (by rw[HN.out]) (by omega) (.inl rfl),aP.out,⟨_,cd.out,b8.out⟩,aX.out⟩,?_⟩;show N - k<N
    omega
theorem qaL (h0 af O:List Int)(hh:Words 32 8 h0)(hm: ∀z∈af,0≤z∧z≤255)(p:Nat)(hv v:Value)(w:World)(hE:Q1 false w p hv h0 af)(hH:Hold w v O)(hF:O≠[]→ ∀b,v.ownBlock=some b→zZ p hv b)(cU:(af.length:Int)+O.length≤140737488355328):
  Calls Tryz.prog 266 #[.pointer (some ⟨p,0,none⟩),v] w fun e w'=>e= .returned (.tuple #[])∧(∃ak,Q1 false w' p ak h0 (af++O)∧(ak.ownBlock=hv.ownBlock∨ ∀g,ak.ownBlock=some g→w.heap.size≤g))∧Spare (zZ p hv) w w':=by
 obtain⟨i0,hi,co,cy,cv⟩:=info_parts Ql;have dd:p<w.heap.size:=(Ai hE.1).1;have cO:=hid hh;have cr:=hid hm;have HE:=hid hE;have HH:=hid hH;have HF:=hid hF;have bE:=hH.1;have HZ:=hid bE;clear hh hm hE hH hF bE;obtain⟨S,hS⟩:=Ex (zZ p hv);have HS:=hid hS;rw[hS];clear hS;go_enter Tryz.func266,Tryz.ntmps266
 go_wp2_with fail
 go_loopw [1] (fun b wr=> ∃j:Nat,j≤O.length∧Hold wr b (O.drop j)∧b.ownBlock=v.ownBlock∧(∃ak,Q1 false wr p ak h0 (af++O.take j)∧(ak.ownBlock=hv.ownBlock∨ ∀g,ak.ownBlock=some g→w.heap.size≤g))∧Spare S w wr) (fun b _=>qeQ b)
 case atStart=>exact⟨0,Nat.zero_le _,by simpa using HH.out,rfl,⟨hv,by simpa using HE.out,.inl rfl⟩,Spare.refl _ _⟩
 case round=>
  obtain⟨j,hj,bo,bH,⟨cD,ce,aN⟩,bO⟩:=hrel;have cQ:=hid bo;have an:=hid bO;have bd:=hid ce;have aP:=hid bH;have ao:=hid aN;obtain⟨ab,cb,rfl,ck,cS⟩:=bo.slice;clear bo bO ce bH aN;by_cases ad:j<O.length
  case neg=>
   obtain rfl:j=O.length:=by omega
   have aF:(O.drop O.length).length=0:=by simp
   rw[aF]at*;go_wp2
   go_end0
   have h1:=bd.out;rw[List.take_length]at h1;exact⟨rfl,⟨cD,h1,ao.out⟩,an.out⟩
  have bU:(O.drop j).length=O.length - j:=by simp
  have cA:0<(O.drop j).length:=by omega
  have q:((O.drop j).length:Int)≤140737488355328:=by omega
  obtain⟨m1,aE⟩:=Ex (af++O.take j);have di:m1.length≤140737488355328:=by rw[←aE];simp;omega
  have aY: ∀z∈m1,0≤z∧z≤255:=by
   rw[←aE];intro z hz;rcases List.mem_append.1 hz with hz|hz
   ·exact cr.out z hz
   ·exact HZ.out z (List.mem_of_mem_take hz)
  have c6:=hid aY;have cp:=hid bU;have cf:=bd.out;rw[aE]at cf;have cJ:=hid aE;obtain⟨N,hN⟩:=Ex ((O.drop j).length);rw[hN]at cA q ck⊢;have HN:=hid hN;have be:=JY (YY false) m1;have b6:=qcZ false h0 m1;have bw:=qc0 false h0 m1;have bh:=ju (YY false) m1;have b3:=zL (n:=bB false) aY;have bW:=Yk false cO.out m1 (nbk (bB false) m1.length);obtain⟨Z,aw⟩:=cf;simp only[cond]at Z;generalize stZ false h0 m1 (nbk (bB false) m1.length)=H1 at*;generalize bB false*nbk (bB false) m1.length=G at*;generalize yj (bB false) m1=hl at*;rw[show bB false=64 from rfl]at bw bh;obtain⟨a1,n1,c1,rfl⟩:=qs aw;have cz:n1=hl.length:=yM aw;subst cz;have aR:=hid b6;have ap:=hid bw;have a8:=hid be;have bV:=hid b3;have ay:=hid bW;have bj:=hid Z;have bu:=hid aw;have al:wr.cell? ⟨p,10,none⟩=some (.slice a1 hl.length c1):=qd Z 10;have aO:wr.cell? ⟨p,11,none⟩=some (.int .i64 64):=qd Z 11;have aA:=frozen_of_row wr p 10 _ _ Z;have ca:=frozen_of_row wr p 11 _ _ Z;clear Z aw bW b3 be bw b6 aE aY bU hN;go_upto_region 1 with(fail)
  obtain⟨tb,aG⟩: ∃tb,((hl.length:Int)==64)=tb:=⟨_,rfl⟩;go_quiet (fail)
  go_upto_if 17 with(fail)
  go_cut [1] from 4 (fun b W=>b= .slice ab N cb∧qjU false w S p hv h0 m1 W)
  case first=>
   have au:Below wr.heap.size wr (wr.drewN nq):=QU nq;have ah:=qf bj.out au;have av:=qi bu.out (fun g _ hg=>au.block g hg);have ac:Spare S w (wr.drewN nq):=an.out.trans (Spare.of_below S au) (fun _ _ h=>h);clear au al aO aA ca;generalize wr.drewN nq=W2 at*
   cases tb
   case false=>
    have HT:=hid aG;clear aG;go_wp2
    go_meet
    case rel=>exact⟨rfl,H1,G,hl,_,ah,av,by have:=beq_eq_false_iff_ne.1 HT.out;show hl.length<64;omega,aR.out,ao.out,ac⟩
   have ag:hl.length=64:=by have:=eq_of_beq aG;omega
   clear aG;have bY:=hid ag;have bZ:=ap.out ag;have b7:G+64<9223372036854775808:=by have:=a8.out;omega
   have b0:=hid b7;rw[ag]at ah;clear ag bh ap;have ap:=hid bZ;have aa:=hid ah;have aD:=hid av;have b9:=hid ac;clear bZ ah av ac b7;have ch:p<W2.heap.size:=(Ai aa.out).1;go_upto_region 2 with(fail)
   refine yl (fun f W=>(f=false→Below W2.heap.size W2 W)∧(f=true→W.heap[p]? =some (.cells (zX H1 ((G+64:Nat):Int) (.slice a1 64 c1)) 291 (0,0))∧But p W2 W)) 16 [.z 19 p 0,.z 20 p 0,.z 21 p 0,.z 22 p 8,.v 23 (.agg #[.int .u64 G,.int .u64 0]),.z 24 p 0,.z 25 p 0,.z 26 p 11,.v 27 (.int .i64 64),.v 28 (.int .u64 64),.v 29 (.tuple #[.agg #[.int .u64 ((G+64:Nat):Int),.int .u64 0],.bool false]),.v 18 (.tuple #[.agg #[.int .u64 ((G+64:Nat):Int),.int .u64 0],.bool false]),.v 30 (.agg #[.int .u64 ((G+64:Nat):Int),.int .u64 0]),.v 31 (.bool false),.z 32 p 0,.z 33 p 8,.f none [] (fun _ _=>True)] (by exact⟨fun _ _ _ _ h=>h,trivial⟩) ⟨fun _=>Br.drew,fun h=>(by cases h)⟩ (fun f W W' h J=>⟨fun e=>(h.1 e).trans (J.mono (h.1 e).size),fun e=>⟨qf (h.2 e).1 J,(h.2 e).2.trans (But.of_below J)⟩⟩) ?_ ?_ ?_
   ·repeat' (with_reducible first|exact qB|refine qw ?_ ?_)
    all_goals try
     refine .inr ?_;intro A x W f r V hf o D K I;have a0:=r.2 0 (by decide);conv at a0=>rhs;whnf
     simp only[Q7,yk]at D;clear o r;go_simp
     exact I _ _ BR rfl
    any_goals exact .inl rfl
    all_goals refine .inr ?_
    ·intro A x W f r V hf o _ K I;have cI:=gw r o 3 22;clear o r;have az:f=false:=hf (by kernel_rfl);have U:=qf aa.out (V.1 az);refine Qs 281 _ rfl p 8 cI 291 _ #[.int .u64 G,.int .u64 0] (0,0) _ U Tryz.underlying281 rfl (by kernel_rfl) (qdX _ _ _) (I _ _ Br rfl)
    ·intro A x W f r V hf o _ K I;have dh:=gw r o 7 26;clear o r;have az:f=false:=hf (by kernel_rfl);have U:=qf aa.out (V.1 az);have c0:W.cell? ⟨p,11,none⟩=some (.int .i64 64):=qd U 11;go_simp
     exact I _ _ BR rfl
    ·intro A x W f r V hf o _ K I;have c9:=gw r o 4 23;have c4:=gw r o 9 28;clear o r;go_simp
     refine(qd4 G 64 b0.out _).mono ?_;rintro e w' ⟨rfl,J⟩;exact I _ _ J rfl
   ·intro A x W r V o K I;have cM:=gw r o 15 33;have cP:=gw r o 12 30;clear o r;have U:=qf aa.out (V.1 rfl);refine Zs 281 _ _ rfl p 8 #[.int .u64 ((G+64:Nat):Int),.int .u64 0] cM cP 291 _ U (by kernel_rfl) (by simp[zX]) (by simp[Value.oneCell']) ?_;rw[qgj];refine I _ _ (fun _=>rfl) ⟨fun h=>(by cases h),fun _=>⟨setRow_heap _ _ _ _ _ _ U,(But.of_below (V.1 rfl)).trans (But.of_setRow _ _ _)⟩⟩ ⟨.inr (fun _ h=>h),.inr (fun _ h=>h),.inr (fun _ h=>h),.inr (fun _ h=>h),.inr (fun _ h=>h),.inr (fun _ h=>h),.inr (fun _ h=>h),.inr (fun _ h=>h),.inr (fun _ h=>h),.inr (fun _ h=>h),.inr (fun _ h=>h),.inr (fun _ h=>h),.inr (fun _ h=>h),.inr (fun _ h=>h),.inr (fun _ h=>h),.inr (fun _ h=>h),.inl rfl,trivial⟩ trivial
   intro x W V ai;obtain⟨cg, -⟩:=ai;simp only[QP,Act.put,Ls];obtain⟨bN,aM⟩:=V.2 rfl;have cw:=aM.size;have a7:W.ownsRow 0 5 1 (.slice a1 64 c1) 64 (hl.map qo):=by
    have h1:=aD.out;rw[bY.out]at h1;exact Yy h1 aM aa.out (by decide)
   have bi:Spare S w W:=b9.out.trans (Spare.of_but aM) (fun b _ J=>by have h2:=HS.out;subst h2;exact J.1);have bM:Holds8 W (.slice a1 64 c1) hl:=yf a7;have ae:=hid bN;have bK:=hid a7;have bA:=hid bi;have b5:=hid bM;clear cg V bN aM a7 bi bM x aa aD b9 cw ch;generalize W=W3 at*;clear W2;go_upto_region 3 with(fail)
   obtain⟨H2,ba⟩:=Ex (yJ false H1 hl ((G+64:Nat):Int) false false);have bL:Words 32 8 H2:=by rw[←ba];exact QX false ay.out _ _ _ _
   have bq:=qc2 H1 hl ay.out (.slice a1 64 c1) (G+64) (by have:=b0.out;omega) false false;have aI:=ap.out;rw[ba]at bq aI;have bF:=hid bq;have cl:=hid aI;have bm:=hid bL;clear bq ba aI bL ap;have cm:p<W3.heap.size:=(Ai ae.out).1;refine qI (n:=18) (w0:=W3) (B:=W3.heap.size) [.z 34 p 0,.z 35 p 0,.z 36 p 0,.z 37 p 12,.v 38 (.func (.func 187) #[] #[]),.z 39 p 0,.z 40 p 0,.z 41 p 0,.v 42 (.agg (qj .u32 H1)),.z 43 p 0,.z 44 p 0,.z 45 p 10,.v 46 (.slice a1 64 c1),.z 47 p 0,.z 48 p 0,.z 49 p 8,.v 50 (.agg #[.int .u64 ((G+64:Nat):Int),.int .u64 0]),.v 51 (.agg (qj .u32 H2))] trivial Br.drew Nl ?_ ?_
   ·repeat' (with_reducible first|exact qB|refine qw ?_ ?_)
    all_goals try
     intro A x W r hW am o D K I;have a0:=r.2 0 (by decide);conv at a0=>rhs;whnf
     simp only[Q7,yk]at D;clear o r;go_simp
     exact I _ _ BR rfl
    ·intro A x W r hW am o _ K I;have cX:=gv r o 3 37;clear o r;have U:=qf ae.out hW;have c0:W.cell? ⟨p,12,none⟩=some (.func (.func 187) #[] #[]):=qd U 12;go_simp
     exact I _ _ BR rfl
    ·intro A x W r hW am o _ K I;have cx:=gv r o 7 41;clear o r;have U:=qf ae.out hW;refine Qs 284 _ rfl p 0 cx 291 _ (qj .u32 H1) (0,0) _ U Tryz.underlying284 rfl (by rw[qg,ay.out.1];kernel_rfl) (qiL ay.out _ _) (I _ _ Br rfl)
    ·intro A x W r hW am o _ K I;have c5:=gv r o 11 45;clear o r;have U:=qf ae.out hW;have c0:W.cell? ⟨p,10,none⟩=some (.slice a1 64 c1):=qd U 10;go_simp
     exact I _ _ BR rfl
    ·intro A x W r hW am o _ K I;have cC:=gv r o 15 49;clear o r;have U:=qf ae.out hW;refine Qs 281 _ rfl p 8 cC 291 _ #[.int .u64 ((G+64:Nat):Int),.int .u64 0] (0,0) _ U Tryz.underlying281 rfl (by kernel_rfl) (qdX _ _ _) (I _ _ Br rfl)
    ·intro A x W r hW am o _ K I;have cY:=gv r o 4 38;have cZ:=gv r o 8 42;have de:=gv r o 12 46;have dc:=gv r o 16 50;clear o r;go_simp
     refine(bF.out _ (b5.out.mono_below hW Nl) bV.out bY.out).mono ?_;rintro e w' ⟨rfl,J⟩;exact I _ _ J rfl
   intro x W hW am ai;clear ai;refine qr ?_;simp only[QP,Act.put,Ls];have aV:=qf ae.out hW;have bz:But p W3 W:=But.of_below hW;clear hW am x;go_wp2_with fail
   refine qr ?_;go_wp2_with fail
   refine qr ?_;refine z9 rfl 284 _ _ rfl p 0 (qj .u32 H2) rfl rfl 291 _ aV (by rw[qg,bm.out.1];kernel_rfl) (by rw[qg,bm.out.1];simp[zX]) qy ?_;rw[qhD bm.out];refine qv ?_;have aC:=setRow_heap W p _ (zX H2 ((G+64:Nat):Int) (.slice a1 64 c1)) _ _ aV;have aU:=bz.trans (But.of_setRow W p (zX H2 ((G+64:Nat):Int) (.slice a1 64 c1)));generalize W.setRow p (zX H2 ((G+64:Nat):Int) (.slice a1 64 c1))=W5 at*;have bD:=Yy bK.out aU ae.out (by decide);have a6:Spare S w W5:=bA.out.trans (Spare.of_but aU) (fun b _ J=>by have h2:=HS.out;subst h2;exact J.1);have a5:=hid bD;have cB:=hid a6;have bR:=hid aC;clear aV bz aU bD a6 bF bK bA ae b5 W cm W3;obtain⟨g1,rfl⟩:=jq a5.out (by decide);obtain⟨cu, -, -, -, -,aF,bv⟩:=zb a5.out;have bx:(c1:Int)≤9223372036854775807:=by unfold maxLen at bv;omega
   have aS:64≤(c1:Int):=by omega
   have al:W5.cell? ⟨p,10,none⟩=some (.slice (some ⟨g1,0,none⟩) 64 c1):=qd aC 10;have aA:=frozen_of_row W5 p 10 _ _ aC;have cW:p<W5.heap.size:=(Ai aC).1;clear aC bv;go_wp2
   go_meet
   case rel=>
    have aj:But p W5 (W5.setCell ⟨p,10,none⟩ (.slice (some ⟨g1,0,none⟩) 0 c1)):=(But.refl p W5).set 10 _;exact⟨rfl,H2,G+64,[],.slice (some ⟨g1,0,none⟩) 0 c1,heap_setCell_same W5 p 10 _ _ _ bR.out,qeH (Yy a5.out aj bR.out (by decide)),by show 0<64;decide,cl.out,ao.out,cB.out.trans (Spare.of_but aj) (fun b _ J=>by have h2:=HS.out;subst h2;exact J.1)⟩
  case rest=>
   clear al aO aA ca aG tb nq bj bu ay bV a8 ap aR bh bd;obtain⟨rfl,H2,bP,q,dg,aq,aQ,bf,aW,bg,ac⟩:=hcut;have ci:=an;clear ao an;simp only[cond]at aq;have cR:q.length<64:=bf;obtain⟨a2,n2,c2,rfl⟩:=qs aQ;obtain rfl:n2=q.length:=yM aQ;obtain⟨k,hk⟩:=Ex (min N (64 - q.length));have HK:=hid hk;have aa:=hid aq;have aD:=hid aQ;have aR:=hid aW;have ao:=hid bg;have an:=hid ac;clear hk aQ aW bg ac bf;have al:wc.cell? ⟨p,10,none⟩=some (.slice a2 q.length c2):=qd aq 10;have aO:wc.cell? ⟨p,11,none⟩=some (.int .i64 64):=qd aq 11;have cN:p<wc.heap.size:=(Ai aq).1;clear aq;go_upto_region 5 with(fail)
   go_quiet (fail)
   rw[show min (N:Int) (64 - (q.length:Int))=(k:Int) from by have:=HK.out;omega];have aj:Below wc.heap.size wc (wc.drewN nq):=QU nq;have aT:=qf aa.out aj;have bI:=qi aD.out (fun g _ hg=>aj.block g hg);have aL:Spare S w (wc.drewN nq):=an.out.trans (Spare.of_below S aj) (fun _ _ h=>h);clear aj al aO aa aD an cN;generalize wc.drewN nq=W6 at*;clear wc;have bn:Hold W6 (.slice ab N cb) (O.drop j):=by
    have h1:=HH.out;have h2:=cQ.out;have Y:=aP.out;rw[HN.out]at h2 Y;exact zV h2 HH.out Y ci.out aL (fun b J=>by have h4:=HS.out;subst h4;exact HF.out (fun e=>by rw[e]at ad;simp at ad) b J) (fun e=>by rw[e]at ad;simp at ad)
   obtain⟨X,hX⟩:=Ex ((O.drop j).take k);have aF:1≤k∧k≤N∧q.length+k≤64:=by have:=HK.out;omega
   have br:X.length=k:=by rw[←hX,List.length_take,HN.out];omega
   have aZ:Hold W6 (.slice ab k cb) X:=by rw[←hX];exact qc8 bn (by rw[HN.out];omega)
   have bp:=aZ.src;rw[br]at bp;have HX:=hid hX;have a9:=hid br;have c7:=hid aZ;have cn:=hid bp;have bG:=hid bn;have bQ:=hid aT;have cL:=hid bI;have aK:=hid aL;have cV:p<W6.heap.size:=(Ai aT).1;obtain⟨aF,bv,bx⟩:=aF;have aS:(k:Int)≤N∧(k:Int)≤cb∧1≤(k:Int):=by omega
   obtain⟨aS,df,db⟩:=aS;clear hX br aZ bp bn aT bI aL;go_upto_region 6 with(fail)
   refine Yt (n:=9) (fun f W=>(f=false→Below W6.heap.size W6 W)∧(f=true→W.heap[p]? =some (.cells (zX H2 ((bP:Nat):Int) (.slice a2 q.length c2)) 291 (0,0))∧Spare (fun b=>(Value.slice a2 q.length c2).ownBlock≠some b) W6 W)) 8 [.z 75 p 0,.z 76 p 0,.z 77 p 0,.z 78 p 10,.v 79 (.slice a2 q.length c2),.v 80 (.slice ab N cb),.v 81 (.int .i64 k),.v 82 (.slice ab k cb),.p 83 (fun u W=>W.ownsRow 0 5 1 u (q.length+k) ((q++X).map qo)∧(u.ownBlock=(Value.slice a2 q.length c2).ownBlock∨ ∀g,u.ownBlock=some g→W6.heap.size≤g))] (by exact⟨(fun W W' J u h=>⟨qi h.1 (fun g _ hg=>J.block g hg),h.2⟩),trivial⟩) ⟨fun _=>Br.drew,fun h=>(by cases h)⟩ (fun f W W' h J=>⟨fun e=>(h.1 e).trans (J.mono (h.1 e).size),fun e=>⟨qf (h.2 e).1 J,(h.2 e).2.trans (Spare.of_below _ J) (fun _ _ h=>h)⟩⟩) ?_ ?_ ?_
   ·repeat' (with_reducible first|exact qB|refine qw ?_ ?_)
    all_goals try
     refine .inr ?_;intro A x W f r V hf o D K I;have a0:=r.2 0 (by decide);conv at a0=>rhs;whnf
     have a1:=r.2 1 (by decide);conv at a1=>rhs;whnf
     have a4:=r.2 4 (by decide);conv at a4=>rhs;whnf
     simp only[Q7,yk]at D;clear o r;go_simp
     exact I _ _ BR rfl
    any_goals exact .inl rfl
    all_goals refine .inr ?_
    ·intro A x W f r V hf o _ K I;have c8:=gw r o 3 78;clear o r;have az:f=false:=hf (by kernel_rfl);have U:=qf bQ.out (V.1 az);have c0:W.cell? ⟨p,10,none⟩=some (.slice a2 q.length c2):=qd U 10;go_simp
     exact I _ _ BR rfl
   ·intro A x W r V o K I;have ct:=gw r o 4 79;have cF:=gw r o 7 82;clear o r;have hB:=V.1 rfl;have ho:=qi cL.out (fun g _ hg=>hB.block g hg);have U:=qf bQ.out hB;refine YM _ _ 24 rfl 0 5 i0 (.int .u8 0) 1 Tryz.underlying24 hi co cy cv rfl (.slice a2 q.length c2) q.length (q.map qo) ct ho (.slice ab k cb) k (X.map qo) cF (cn.out.below hB) (by unfold maxLen;omega) (by omega) (Nat.zero_le _) ?_;intro v' w' h1 h2 Y;have h4:w'.heap[p]? =some (.cells (zX H2 ((bP:Nat):Int) (.slice a2 q.length c2)) 291 (0,0)):=(h2.block p (Ai U).1 (qdM ho U (by decide))).trans U;rw[←List.map_append]at h1;refine I v' w' (fun h=>by cases h) ⟨fun h=>(by cases h),fun _=>⟨h4,(Spare.of_below _ hB).trans (Spare.of_grown h2) (fun _ _ h=>h)⟩⟩ ⟨.inr (fun _ h=>h),.inr (fun _ h=>h),.inr (fun _ h=>h),.inr (fun _ h=>h),.inr (fun _ h=>h),.inr (fun _ h=>h),.inr (fun _ h=>h),.inr (fun _ h=>h),.inl rfl,trivial⟩ ⟨h1,?_⟩;rcases Y with Y|Y
    ·exact .inl Y
    ·refine .inr fun g hg=>?_
     rw[Y]at hg;cases hg;exact hB.size
   intro x W V ai;obtain⟨ar, -⟩:=ai;change ((fun u W=>W.ownsRow 0 5 1 u (q.length+k) ((q++X).map qo)∧(u.ownBlock=(Value.slice a2 q.length c2).ownBlock∨ ∀g,u.ownBlock=some g→W6.heap.size≤g))) (x 83) W at ar
   obtain⟨aB,bc⟩:=V.2 rfl;obtain⟨ax,aJ⟩:=ar;obtain⟨a3,n3,c3,ar⟩:=qs ax;rw[ar]at ax aJ;obtain rfl:n3=q.length+k:=yM ax;refine qr ?_;simp only[QP,Act.put,Ls,ar];clear ar;have al:W.cell? ⟨p,10,none⟩=some (.slice a2 q.length c2):=qd aB 10;have aA:=frozen_of_row W p 10 _ _ aB;have cj:p<W.heap.size:=(Ai aB).1;have bX:=hid aB;have cq:=hid ax;have cH:=hid aJ;have bk:=hid bc;clear aB ax aJ bc V;go_wp2_with fail
   refine qr ?_;go_wp2_with fail
   refine qr ?_;go_wp2_with fail
   refine qv ?_;obtain⟨bb,ob,rfl⟩:=qax bG.out (fun e=>by have:=HN.out;rw[e]at this;simp at this;omega);have bl:But p W (W.setCell ⟨p,10,none⟩ (.slice a3 (q.length+k) c3)):=(But.refl p W).set 10 _;have cK:=hid (heap_setCell_same W p 10 _ _ (.slice a3 (q.length+k) c3) bX.out);have cE:=hid (Yy cq.out bl bX.out (by decide));have aH:Spare S w (W.setCell ⟨p,10,none⟩ (.slice a3 (q.length+k) c3)):=by
    refine(aK.out.trans bk.out ?_).trans (Spare.of_but bl) (fun b _ J=>by have h2:=HS.out;subst h2;exact J.1);intro b da au;have h2:=HS.out;subst h2;rcases ao.out with Y|Y
    ·rw[Y];exact au.2
    ·intro e;have:=Y b e;omega
   have bT:Hold (W.setCell ⟨p,10,none⟩ (.slice a3 (q.length+k) c3)) (.slice (some ⟨bb,ob,none⟩) N cb) (O.drop j):=by
    have Y:=aP.out;exact zV bG.out HH.out Y aK.out aH (fun b J=>by have h4:=HS.out;subst h4;exact HF.out (fun e=>by rw[e]at ad;simp at ad) b J) (fun e=>by rw[e]at ad;simp at ad)
   have aX:=hid aH;have cG:=hid bT;clear bl aH bT al aA cj;have cT:W6.heap.size≤(W.setCell ⟨p,10,none⟩ (.slice a3 (q.length+k) c3)).heap.size:=by have:=bk.out.size;simpa [World.setCell] using this
   generalize W.setCell ⟨p,10,none⟩ (.slice a3 (q.length+k) c3)=W8 at*;have cc:j+k≤O.length:=by have:=cp.out;have:=HN.out;omega
   have bS:Q1 false W8 p (.slice a3 (q.length+k) c3) h0 (af++O.take (j+k)):=by
    have e0:af++O.take (j+k)=m1++X:=by rw[←cJ.out,←HX.out,List.append_assoc,List.take_add]
    obtain⟨e1,e2,e3⟩:=aR.out X (by rw[a9.out];omega) (by rw[a9.out];exact bx);rw[e0];unfold Q1;rw[e1,e2,e3];exact⟨cK.out,(show(q++X).length=q.length+k by rw[List.length_append,a9.out])▸cE.out⟩
   have b4:(Value.slice a3 (q.length+k) c3).ownBlock=hv.ownBlock∨ ∀g,(Value.slice a3 (q.length+k) c3).ownBlock=some g→w.heap.size≤g:=by
    rcases cH.out with Y|Y
    ·rw[Y];exact ao.out
    ·exact .inr fun g hg=>Nat.le_trans aK.out.size (Y g hg)
   have cd:=hid bS;have b8:=hid b4;have bC:=hid (fun(a':Option Addr) (n' c':Nat) (hn:n'=(O.drop j).length - k) (hc:c'=cb - k) (h:a'=some ⟨bb,ob+k,none⟩∨a'=some ⟨bb,ob,none⟩∧cb=k)=>(show Hold W8 (.slice a' n' c') (O.drop (j+k)) by rw[←List.drop_drop];exact jT cG.out (k:=k) (by have:=HN.out;omega) hn hc bb ob rfl h));clear bS b4;by_cases bJ:cb=k
   case pos=>
    have bt:=bJ;go_wp2
    refine⟨⟨j+k,cc,bC.out _ _ _ (by rw[HN.out]) (by omega) (.inr ⟨rfl,bt⟩),aP.out,⟨_,cd.out,b8.out⟩,aX.out⟩,?_⟩;show N - k<N
    omega
   case neg=>
    have bt:=bJ;go_wp2
    refine⟨⟨j+k,cc,bC.out _ _ _ (by rw[HN.out]) (by omega) (.inl rfl),aP.out,⟨_,cd.out,b8.out⟩,aX.out⟩,?_⟩;show N - k<N
    omega
end Go.Proofs.YthjoojnlnlmljaaGreat
