/- What the leaves give, by the program. No condition. -/
import Derived.Test.YtdndeffmlhaipaaGreatDoorS31
import Derived.Test.YtdndeffmlhaipaaGreatDoorS04
import Derived.Test.YtdndeffmlhaipaaGreatDoorS18
import Derived.Test.YtdndeffmlhaipaaGreatDoorS30
set_option linter.all false
set_option maxRecDepth 100000
set_option maxHeartbeats 8000000
namespace Go.Proofs.YtdndeffmlhaipaaGreatDoor
open Go.ChangeShapes Go.WideShapes Go.ChangeAt Go.RowKit Go.Joins Go.Shelf Go.Maps
open Go.Lib (hid)
attribute [local go_sem] Oper.semAt_some
theorem J4 {n:Nat}(zs:List Int)(hn:1≤n):1≤(yr n zs).length∧(yr n zs).length≤zs.length+1:=by
 unfold yr;split
 ·exact⟨Nat.le_refl _,by simp⟩
 ·rename_i h;have h1:=List.length_pos_iff.2 h;rw[Qj];have:=Yf (n:=zs.length) hn
  have:=jp (d:=n) (show 1≤zs.length from h1)
  omega
theorem qcn {n:Nat}(zs:List Int)(i:Nat):(qK (yr n zs) i).length≤zs.length:=by
 unfold yr;split
 ·cases i<;>simp[qK]
 ·unfold qK Y3;rw[Lg,List.getElem?_map]
  cases(List.range (Qc zs.length n))[i]? with
  | none=>simp
  | some j=>exact(jC n zs j).length_le
theorem qep (t:TreeV)(kz z1 z2 zs:List Int)(v:Value)(w:World)(h:TreeOk t kz z1 z2 w)(hv:Hold w v zs)(hn:zs.length≤4194304):
  Calls Tryz.prog 28 #[t.val,v] w fun e w'=> ∃u,e= .returned (.tuple #[u,.int .i64 0])∧ListO w.heap.size w' u (t.rowZ kz z1 z2 0 false (yr t.ln zs) (yr t.ln zs).length)∧Below w.heap.size w w':=by
 obtain⟨b0,hb0⟩:=Ex w.heap.size;have HT:=hid h;have HV:=hid hv;obtain⟨ib,hib,hzb,hsb,hbb⟩:=info_parts yk;have hvl:=Y8 t;simp only[h.v]at hvl;have HVL:=hid hvl;obtain⟨va,vc,rfl, -, -⟩:=hv.slice;have hbA:Below b0 w (w.alloc (.cells #[.int .i64 t.k,.int .i64 t.d,.int .i64 t.f,.int .i64 t.p,.int .u32 t.l,.int .i64 t.i,.slice t.ka t.kl t.kc,.slice t.sa t.sl t.sc,.slice t.pa t.pl t.pc] 26)):=by rw[←hb0];exact Br.alloc Nl _
 have hrA:=Wn w (.cells #[.int .i64 t.k,.int .i64 t.d,.int .i64 t.f,.int .i64 t.p,.int .u32 t.l,.int .i64 t.i,.slice t.ka t.kl t.kc,.slice t.sa t.sl t.sc,.slice t.pa t.pl t.pc] 26);rw[hb0]at hrA;have hln:1≤t.ln:=by
  have:=(qq h.v).2.2.2.2.2.2.2.2.1
  have:=h.l
  unfold TreeV.ln;omega
 have hcl:=J4 zs hln;have hcn:=fun i=>qcn (n:=t.ln) zs i
 have HCN:=hid hcn;have HCU:=hid (fun(W:World) (hb:Below b0 w W)=>qgu t h.v h.l zs (.slice va zs.length vc) W (hv.below (hb0▸hb)) (by omega));generalize yr t.ln zs=L at*;clear h hv hvl hln hcn;unfold TreeV.val;go_enter Tryz.func28,Tryz.ntmps28
 go_upto_region 1 with(fail)
 generalize w.alloc (.cells #[.int .i64 t.k,.int .i64 t.d,.int .i64 t.f,.int .i64 t.p,.int .u32 t.l,.int .i64 t.i,.slice t.ka t.kl t.kc,.slice t.sa t.sl t.sc,.slice t.pa t.pl t.pc] 26)=wA at*;go_wp2_with ((with_reducible show wpList _ _ _ (Oper.mk _ (Op.load 26 _) _ _ _ _::_) _ _);refine wpList_load_row rfl 26 _ rfl b0 rfl _ _ _ _ hrA Tryz.underlying26 rfl (by kernel_rfl) ?_)
 refine(HVL.out wA).mono ?_;rintro e w2 ⟨rfl,hb2⟩;have hr2:=qe hrA hb2;have hB2:Below b0 w w2:=hbA.trans (hb2.mono (by have:=(Ai hrA).1;omega));clear hrA hbA hb2;go_wp2_with ((with_reducible show wpList _ _ _ (Oper.mk _ (Op.load 26 _) _ _ _ _::_) _ _);refine wpList_load_row rfl 26 _ rfl b0 rfl _ _ _ _ hr2 Tryz.underlying26 rfl (by kernel_rfl) ?_)
 refine(HCU.out w2 hB2).mono ?_;rintro e w3 ⟨lv,rfl,hlo,hb3⟩;have hr3:=qe hr2 hb3;have hb02:=(Ai hr2).1;have hs3:=hb3.size;have HLO:=hid (hlo.le (show b0≤w2.heap.size by omega));have HB3:=hid (hB2.trans (hb3.mono (by omega)));have HR3:=hid hr3;obtain⟨la,lc,rfl,hlc1,hlc2, -⟩:=hlo.hold;clear hr2 hB2 hlo hb3 hr3 HVL HCU;obtain⟨bL,hbL⟩:=Ex w3.heap.size;go_wp2_with fail
 go_loopw [7,23] (fun s i wr=> ∃j:Nat,i= .int .i64 (j:Nat)∧j≤L.length∧ListO bL wr s (t.rowZ kz z1 z2 0 false L j)∧Below bL w3 wr) (fun _ i _=>L.length - (intOf i).toNat)
 case atStart=>exact⟨0,rfl,Nat.zero_le _,ListO.nil _ _,Below.refl _ _⟩
 case round=>
  obtain⟨j,rfl,hj,ho,hb⟩:=hrel;by_cases hlt:j<L.length
  case pos=>
   obtain⟨la',lc',e, -, -,h3⟩:=(HLO.out.below (hbL▸hb)).hold;obtain⟨g,off,rfl,h4,h5⟩:=h3.resolve_left (fun e=>by rw[e]at hlt;simp at hlt);simp only[Value.slice.injEq]at e;obtain⟨rfl, -, -⟩:=e;obtain⟨x,hx,hxh⟩:=h5 j hlt;obtain⟨xa,xc,rfl, -, -⟩:=hxh.slice;have hlt2:(j:Int)<L.length:=by omega
   have hLn:(L.length:Int)≤16777216:=by omega
   have hxl:=HCN.out j;have HXL:=hid hxl;obtain⟨ql,hql⟩: ∃q:Bool,decide (j+1=L.length)=q:=⟨_,rfl⟩;have hla:((j:Int)==(L.length:Int) - 1)=ql:=by
    rw[←hql,Bool.eq_iff_iff,beq_iff_eq,decide_eq_true_eq];omega
   have HQL:=hid hql;have hju:IntKind.u64.wrap (j:Int)=(j:Int):=u64_wrap_id _ (by omega) (by omega);obtain⟨vs,hvo,hvx⟩:=ho;have hvl:vs.length=j:=by have:=hvo.1;rw[qr]at this;omega
   rw[qr]at hvo hvx;have HVX:=hid hvx;obtain⟨a8,n8,k8,rfl⟩:=qp hvo;have HVO:=hid hvo;have HB:=hid hb;have HXH:=hid hxh;have hrr:wr.heap[b0]? =some (.cells #[.int .i64 t.k,.int .i64 t.d,.int .i64 t.f,.int .i64 t.p,.int .u32 t.l,.int .i64 t.i,.slice t.ka t.kl t.kc,.slice t.sa t.sl t.sc,.slice t.pa t.pl t.pc] 26 (0,0)):=qe HR3.out (hbL▸hb);have hTr:=HT.out.below (hb0▸(HB3.out.trans (hb.mono (by omega))));have HTR:=hid hTr;have hbLr:bL≤wr.heap.size:=by have:=hb.size;omega
   clear hvo hvx hxl hql h5 h3 hxh hb hTr;go_wp2_with ((with_reducible show wpList _ _ _ (Oper.mk _ (Op.load 26 _) _ _ _ _::_) _ _);refine wpList_load_row rfl 26 _ rfl b0 rfl _ _ _ _ hrr Tryz.underlying26 rfl (by kernel_rfl) ?_)
   refine(jY t HTR.out.v HTR.out.l z1 z2 kz 0 j (by omega) (by omega) ql false xa (qK L j).length xc wr HTR.out.s HTR.out.p HTR.out.k).mono ?_;rintro e w4 ⟨bv,kv,rfl,hbo,hko,hb4⟩;have HX4:=hid (HXH.out.below hb4);have HBO:=hid hbo;have HKO:=hid hko;have HB4:=hid hb4;clear hbo hko hb4;go_wp2_with fail
   refine(qdH HTR.out (row:=0) (at_:=j) (by omega) (by omega) ql false (qK L j) (.slice xa (qK L j).length xc) bv kv w4 wr.heap.size HBO.out HKO.out HX4.out (by have:=HXL.out;omega)).mono ?_;rintro e w5 ⟨u,rfl,hO,hb5⟩;obtain⟨a6,k6,rfl, -, -⟩:=hO.hold.slice;have hs4:=HB4.out.size;have hs5:=hb5.size;have HK5:=hid ((KB.of_below HB4.out hbLr).trans (KB.of_below hb5 (by omega)));have HO5:=hid (hO.le (show bL≤w4.heap.size by omega));have HV5:=hid (show w5.ownsRow bL 24 1 (.slice a8 n8 k8) j vs from qf (qf HVO.out (fun g _ g2=>HB4.out.block g g2)) (fun g _ g2=>hb5.block g g2));have hNd:t.node kz z1 z2 0 j ql false (qK L j)=t.node kz z1 z2 0 j (decide (j+1=L.length)) false (qK L j):=by rw[HQL.out]
   have HND:=hid hNd;generalize t.node kz z1 z2 0 j ql false (qK L j)=N at*;clear hb5 hO hNd HBO HKO HX4;go_wp2_with (first|((with_reducible show wpList _ _ _ (Oper.mk _ (Op.buildSlice _ _ _) _ _ _ _::_) _ _);refine Qi rfl _ rfl _ _ _ rfl ?_)|(at_builtin;refine Qt rfl _ _ _ rfl bL 24 (by decide) ib (.slice none 0 0) 1 24 Tryz.underlying60 hib hzb hsb hbb rfl (by decide) (.slice a8 n8 k8) j vs [.slice a6 N.length k6] _ rfl HV5.out rfl rfl (by simp[Value.oneCell']) (by unfold maxLen;omega) (by omega) (by omega) ?_;intro v' w' hown' hkb' hsp'))
   refine⟨⟨j+1,rfl,by omega,?_,HB.out.trans (HK5.out.trans hkb').below⟩,by simp[intOf];omega⟩;rw[yz,←HND.out];refine ListO.snoc (w:=w5) (vs:=vs) (x:= .slice a6 N.length k6) (fun i hi=>?_) (by rw[qr];exact hvl) HO5.out (by rw[qr];exact hown') hkb';rw[qr]at hi;exact(HVX.out i hi).kb HK5.out
  obtain rfl:j=L.length:=by omega
  have HO:=hid (ho.le (show b0≤bL by omega));have HB:=hid (HB3.out.trans (hb.mono (show b0≤bL by omega)));clear ho hb;go_wp2
  go_ret2
  exact⟨_,rfl,by rw[hb0];exact HO.out,by rw[hb0];exact HB.out⟩
theorem qaJ {big:Bool}{W:World}{np:Nat}{v:Nat→Nat}{sa pe kv mv x:Value}{la:Bool}{cnt:Int}(h:yu big W np v sa pe kv la mv cnt):yu big (W.setCell ⟨np,33,none⟩ x) np v sa pe kv la x cnt:=heap_setCell_same W np 33 _ _ x h
theorem qd8 {big:Bool}{W:World}{np:Nat}{v:Nat→Nat}{sa pe kv mv:Value}{la:Bool}{cnt x:Int}(h:yu big W np v sa pe kv la mv cnt):yu big (W.setCell ⟨np,34,none⟩ (.int .u64 x)) np v sa pe kv la mv x:=heap_setCell_same W np 34 _ _ _ h
theorem qc3 {big:Bool}{W:World}{np:Nat}{v:Nat→Nat}{sa pe kv mv:Value}{la b:Bool}{cnt:Int}(h:yu big W np v sa pe kv la mv cnt):yu big (W.setCell ⟨np,13,none⟩ (.bool b)) np v sa pe kv b mv cnt:=heap_setCell_same W np 13 _ _ _ h
theorem qgo {W:World}{n b:Nat}{v:Value}{xs:List Value}(h:W.ownsRow 0 5 1 v n xs)(hb:v.ownBlock=some b):b<W.heap.size:=by
 rcases h.2 with⟨rfl, -⟩|⟨g,cap,cur,rfl,h1,h2, -⟩
 ·cases hb
 ·simp only[Value.ownBlock,Option.some.injEq]at hb;subst hb;exact(Ai h2).1
theorem qbd (big:Bool)(v:Nat→Nat)(msg bs:List Int)(sa pe kv mv bv:Value)(la:Bool)(cnt:Int)(np:Nat)(w:World)(hN:yu big w np v sa pe kv la mv cnt)(hO:w.ownsRow 0 5 1 mv msg.length (msg.map qo))(hH:Hold w bv bs)(hF:bs≠[]→ ∀b,bv.ownBlock=some b→YL np mv b)(hlen:(msg.length:Int)+bs.length≤140737488355328):
  Calls Tryz.prog 107 #[.pointer (some ⟨np,0,none⟩),bv] w fun e w'=>e= .returned (.tuple #[])∧(∃mv' cnt',yu big w' np v sa pe kv la mv' cnt'∧w'.ownsRow 0 5 1 mv' (msg++bs).length ((msg++bs).map qo))∧Spare (YL np mv) w w':=by
 obtain⟨i0,hi,hz0,hz1,hz2⟩:=info_parts Qg;have hnp:np<w.heap.size:=(Ai hN).1;obtain⟨ba,bc,rfl,hbc1,hbc2⟩:=hH.slice;obtain⟨S,hS⟩:=Ex (YL np mv);rw[hS];have HN_:=hid hN;have HO_:=hid hO;have HH_:=hid hH;have HF_:=hid hF;have HS_:=hid hS;clear hN hO hH hF hS hbc1;have hbl:(bs.length:Int)≤140737488355328:=by omega
 go_enter Tryz.func107,Tryz.ntmps107
 go_wp2_with fail
 go_loopw [4] (fun i wr=> ∃j:Nat,i= .int .i64 (j:Nat)∧j≤bs.length∧(∃mv',yu big wr np v sa pe kv la mv' cnt∧wr.ownsRow 0 5 1 mv' (msg.length+j) ((msg++bs.take j).map qo)∧(mv'.ownBlock=mv.ownBlock∨ ∀g,mv'.ownBlock=some g→w.heap.size≤g))∧Spare S w wr) (fun i _=>bs.length - (intOf i).toNat)
 case atStart=>exact⟨0,rfl,Nat.zero_le _,⟨mv,HN_.out,by simpa using HO_.out,.inl rfl⟩,Spare.refl _ _⟩
 case round=>
  obtain⟨j,rfl,hj,⟨mv1,hn,ho,hw⟩,hsp⟩:=hrel;obtain⟨a1,n1,c1,rfl⟩:=qp ho;have hn1:n1=msg.length+j:=yn ho;subst hn1;have hnw:np<wr.heap.size:=(Ai hn).1;have HNr:=hid hn;have HOr:=hid ho;have HWr:=hid hw;have HSPr:=hid hsp;by_cases hlt:j<bs.length
  case neg=>
   obtain rfl:j=bs.length:=by omega
   have c34:wr.cell? ⟨np,34,none⟩=some (.int .u64 cnt):=qa hn 34;have f34:=frozen_of_row wr np 34 _ _ hn;clear hn ho hw hsp;go_wp2
   go_end0
   have hbt:=(But.refl np wr).set 34 (.int .u64 (IntKind.u64.wrap (cnt+(bs.length:Int))));refine⟨rfl,⟨_,_,qd8 HNr.out,?_⟩,HSPr.out.trans (Spare.of_but ((But.refl np wr).set 34 _)) (fun b _ hb=>by have h2:=HS_.out;subst h2;exact hb.1)⟩;have h1:=HOr.out;rw[List.take_length]at h1;rw[List.length_append];exact yx h1 ((But.refl np wr).set 34 _) HNr.out (by decide)
  have hne:bs≠[]:=fun e=>by rw[e]at hlt;simp at hlt
  have hbh:Hold wr (.slice ba bs.length bc) bs:=YE HH_.out HH_.out rfl (Spare.refl S w) hsp (fun b hb=>by have h4:=HS_.out;subst h4;exact HF_.out hne b hb) hne;obtain⟨bb,of',rfl,q1,q2,q3,q4⟩:=jL hbh Br hlt;have hjj:(j:Int)<bs.length:=by omega
  have hbt:msg++bs.take (j+1)=(msg++bs.take j)++[qm bs j]:=by rw[Ze hlt,List.append_assoc]
  have HBT:=hid hbt;have HBH:=hid hbh;obtain⟨z,hz⟩:=Ex (qm bs j);rw[hz]at q2 q3 q4;have HZ:=hid hz;have Q2:=hid q2;have hml:(msg.length:Int)+j<140737488355328:=by omega
  clear hn ho hw hsp hbt hbh hz q2;go_upto_region 3 with(fail)
  have hread: ∀(W:World) (f:Bool),((f=false→Below wr.heap.size wr W)∧(f=true→W.heap[np]? =some (.cells (rN (kB big) v sa pe kv la (.slice a1 (msg.length+j) c1) cnt) 183 (0,0))∧Spare (fun b=>(Value.slice a1 (msg.length+j) c1).ownBlock≠some b) wr W))→W.cell? ⟨bb,of'+j,none⟩=some (.int .u8 z):=fun W f hR=>by
   cases f
   ·exact((hR.1 rfl).cell (p:=⟨bb,of'+j,none⟩) q1).trans Q2.out
   ·refine(World.cell?_of_block ((hR.2 rfl).2.block bb q1 ?_)).trans Q2.out;have h4:=HS_.out;subst h4;have h5:=(HF_.out hne bb rfl).2;rcases HWr.out with h6|h6
    ·rw[h6];exact h5
    ·intro e;have:=h6 bb e;have h7:bb<w.heap.size:=yN HH_.out hne rfl;omega
  have hsize: ∀(W:World) (f:Bool),((f=false→Below wr.heap.size wr W)∧(f=true→W.heap[np]? =some (.cells (rN (kB big) v sa pe kv la (.slice a1 (msg.length+j) c1) cnt) 183 (0,0))∧Spare (fun b=>(Value.slice a1 (msg.length+j) c1).ownBlock≠some b) wr W))→bb<W.heap.size:=fun W f hR=>by
   cases f
   ·exact Nat.lt_of_lt_of_le q1 (hR.1 rfl).size
   ·exact Nat.lt_of_lt_of_le q1 (hR.2 rfl).2.size
  have hsize2: ∀(W:World) (f:Bool),((f=false→Below wr.heap.size wr W)∧(f=true→W.heap[np]? =some (.cells (rN (kB big) v sa pe kv la (.slice a1 (msg.length+j) c1) cnt) 183 (0,0))∧Spare (fun b=>(Value.slice a1 (msg.length+j) c1).ownBlock≠some b) wr W))→wr.heap.size≤W.heap.size:=fun W f hR=>by
   cases f
   ·exact(hR.1 rfl).size
   ·exact(hR.2 rfl).2.size
  refine Yc (n:=11) (fun f W=>(f=false→Below wr.heap.size wr W)∧(f=true→W.heap[np]? =some (.cells (rN (kB big) v sa pe kv la (.slice a1 (msg.length+j) c1) cnt) 183 (0,0))∧Spare (fun b=>(Value.slice a1 (msg.length+j) c1).ownBlock≠some b) wr W)) 10 [.v 11 (.pointer (some ⟨np,0,none⟩)),.v 12 (.pointer (some ⟨np,0,none⟩)),.v 13 (.pointer (some ⟨np,0,none⟩)),.v 14 (.pointer (some ⟨np,33,none⟩)),.v 15 (.slice a1 (msg.length+j) c1),.v 16 (.slice (some ⟨bb,of',none⟩) bs.length bc),.v 17 (.int .i64 (j:Nat)),.v 18 (.pointer (some ⟨bb,of'+j,none⟩)),.v 19 (.int .u8 z),.p 20 (fun u W=> ∃q,u= .slice (some ⟨q,0,none⟩) 1 1∧wr.heap.size≤q∧W.heap[q]? =some (.cells #[.int .u8 z] 5 (0,0))),.p 21 (fun u W=>W.ownsRow 0 5 1 u (msg.length+(j+1)) ((msg++bs.take (j+1)).map qo)∧(u.ownBlock=(Value.slice a1 (msg.length+j) c1).ownBlock∨ ∀g,u.ownBlock=some g→wr.heap.size≤g))] (by exact⟨(fun _ _ hb _ h=>by obtain⟨q,e,h1,h2⟩:=h;exact⟨q,e,h1,qe h2 hb⟩),(fun _ _ hb u h=>⟨qf h.1 (fun g _ hg=>hb.block g hg),h.2⟩),trivial⟩) ⟨fun _=>Br.drew,fun h=>(by cases h)⟩ (fun f W W' h hb=>⟨fun e=>(h.1 e).trans (hb.mono (h.1 e).size),fun e=>⟨qe (h.2 e).1 hb,(h.2 e).2.trans (Spare.of_below _ hb) (fun _ _ h=>h)⟩⟩) ?_ ?_ ?_
  ·repeat' (with_reducible first|exact qw|refine qu ?_ ?_)
   all_goals try
    refine .inr ?_;intro A x W f hA hR hf hdep D K hK;have a0:=hA.2 0 (by decide);conv at a0=>rhs;whnf
    have a1:=hA.2 1 (by decide);conv at a1=>rhs;whnf
    have a4:=hA.2 4 (by decide);conv at a4=>rhs;whnf
    simp only[QN,Q0]at D;clear hdep hA;first
    | go_simp
      exact hK _ _ BR rfl
    | have y0:W.cell? ⟨bb,of'+j,none⟩=some (.int .u8 z):=hread W f hR
      have y1:bb<W.heap.size:=hsize W f hR;go_simp
      exact hK _ _ BR rfl
   any_goals exact .inl rfl
   all_goals refine .inr ?_
   ·intro A x W f hA hR hf hdep _ K hK;have g14:=gw hA hdep 3 14;clear hdep hA;have hf0:f=false:=hf (by kernel_rfl);have g0:=qe HNr.out (hR.1 hf0);have c0:W.cell? ⟨np,33,none⟩=some (.slice a1 (msg.length+j) c1):=qa g0 33;go_simp
    exact hK _ _ BR rfl
   ·intro A x W f hA hR hf hdep _ K hK;have g19:=gw hA hdep 8 19;clear hdep hA;have g19':A.tmps[19]?.getD undef= .int .u8 z:=by rw[←Lh];exact g19
    go_simp
    exact hK _ _ (Br.alloc Nl _) ⟨W.heap.size,rfl,hsize2 W f hR,Wn W _⟩
  ·intro A x W hA hR hdep K hK;have g15:=gw hA hdep 4 15;have g20:(fun u W=> ∃q,u= .slice (some ⟨q,0,none⟩) 1 1∧wr.heap.size≤q∧W.heap[q]? =some (.cells #[.int .u8 z] 5 (0,0))) (x 20) W:=hdep ⟨9,.data⟩ (by simp) rfl;have a20:A.tmps.getD 20 undef=x 20:=hA.1 20 (by decide);clear hdep hA;have hB:=hR.1 rfl;have ho:=qf HOr.out (fun g _ hg=>hB.block g hg);have g0:=qe HNr.out hB;obtain⟨qb,eq,hq1,hq2⟩:=g20;refine YB _ _ 24 rfl 0 5 i0 (.int .u8 0) 1 Tryz.underlying24 hi hz0 hz1 hz2 rfl (.slice a1 (msg.length+j) c1) (msg.length+j) ((msg++bs.take j).map qo) g15 ho (.slice (some ⟨qb,0,none⟩) 1 1) 1 [.int .u8 z] (a20.trans eq) ⟨rfl,by simp[Value.oneCell'],.inr ⟨⟨qb,0,none⟩,1,rfl,Z9 hq2⟩⟩ (by unfold maxLen;omega) (by omega) (Nat.zero_le _) ?_;intro v' w' h1 h2 h3;have h4:w'.heap[np]? =some (.cells (rN (kB big) v sa pe kv la (.slice a1 (msg.length+j) c1) cnt) 183 (0,0)):=(h2.block np (Ai g0).1 (qbp ho g0 (by decide))).trans g0;have h5:w'.ownsRow 0 5 1 v' (msg.length+(j+1)) ((msg++bs.take (j+1)).map qo):=by rw[HBT.out,HZ.out,List.map_append,←Nat.add_assoc];exact h1
   have h6: ∀b,(Value.slice a1 (msg.length+j) c1).ownBlock=some b→b<wr.heap.size:=fun b hb=>qgo HOr.out hb
   refine hK v' w' (fun h=>by cases h) ⟨fun h=>(by cases h),fun _=>⟨h4,(Spare.of_below _ hB).trans (Spare.of_grown h2) (fun _ _ h=>h)⟩⟩ ⟨.inr (fun _ h=>h),.inr (fun _ h=>h),.inr (fun _ h=>h),.inr (fun _ h=>h),.inr (fun _ h=>h),.inr (fun _ h=>h),.inr (fun _ h=>h),.inr (fun _ h=>h),.inr (fun _ h=>h),.inr (fun u h=>by obtain⟨q,e,k1,k2⟩:=h;exact⟨q,e,k1,(h2.block q (Ai k2).1 (fun e2=>by have:=h6 q e2.symm;omega)).trans k2⟩),.inl rfl,trivial⟩ ⟨h5,?_⟩;rcases h3 with h3|h3
   ·exact .inl h3
   ·refine .inr fun g hg=>?_
    rw[h3]at hg;cases hg;exact hB.size
  intro x W hR hall;obtain⟨e20,e21, -⟩:=hall;change (fun u W=> ∃q,u= .slice (some ⟨q,0,none⟩) 1 1∧wr.heap.size≤q∧W.heap[q]? =some (.cells #[.int .u8 z] 5 (0,0))) (x 20) W at e20
  change ((fun u W=>W.ownsRow 0 5 1 u (msg.length+(j+1)) ((msg++bs.take (j+1)).map qo)∧(u.ownBlock=(Value.slice a1 (msg.length+j) c1).ownBlock∨ ∀g,u.ownBlock=some g→wr.heap.size≤g))) (x 21) W at e21
  obtain⟨hr7,hsp7⟩:=hR.2 rfl;obtain⟨ho7,how7⟩:=e21;obtain⟨a3,n3,c3,e21⟩:=qp ho7;rw[e21]at ho7 how7;obtain rfl:n3=msg.length+(j+1):=yn ho7;refine qn ?_;simp only[Qw,Act.put,Ls,e21];clear e21 e20;have c33:W.cell? ⟨np,33,none⟩=some (.slice a1 (msg.length+j) c1):=qa hr7 33;have f33:=frozen_of_row W np 33 _ _ hr7;have hnW:np<W.heap.size:=(Ai hr7).1;have HR7:=hid hr7;have HO7:=hid ho7;have HOW7:=hid how7;have HSP7:=hid hsp7;clear hr7 ho7 how7 hsp7 hR hread hsize hsize2;go_wp2_with fail
  refine qn ?_;go_wp2_with fail
  refine qn ?_;go_wp2_with fail
  refine qt ?_;have hb8:But np W (W.setCell ⟨np,33,none⟩ (.slice a3 (msg.length+(j+1)) c3)):=(But.refl np W).set 33 _;have HN8:=hid (show yu big (W.setCell ⟨np,33,none⟩ (.slice a3 (msg.length+(j+1)) c3)) np v sa pe kv la (.slice a3 (msg.length+(j+1)) c3) cnt from qaJ HR7.out);have HO8:=hid (yx HO7.out hb8 HR7.out (by decide));have HW8:=hid (show(Value.slice a3 (msg.length+(j+1)) c3).ownBlock=mv.ownBlock∨ ∀g,(Value.slice a3 (msg.length+(j+1)) c3).ownBlock=some g→w.heap.size≤g from by
   rcases HOW7.out with h3|h3
   ·rw[h3];exact HWr.out
   ·exact .inr fun g hg=>Nat.le_trans HSPr.out.size (h3 g hg))
  have hsp8:Spare S w (W.setCell ⟨np,33,none⟩ (.slice a3 (msg.length+(j+1)) c3)):=by
   refine(HSPr.out.trans HSP7.out ?_).trans (Spare.of_but hb8) (fun b _ hb=>by have h2:=HS_.out;subst h2;exact hb.1);intro b hb1 hb2;have h2:=HS_.out;subst h2;rcases HWr.out with h3|h3
   ·rw[h3];exact hb2.2
   ·intro e;have:=h3 b e;omega
  have HSP8:=hid hsp8;clear hb8 hsp8 c33 f33 hnW;generalize W.setCell ⟨np,33,none⟩ (.slice a3 (msg.length+(j+1)) c3)=W8 at*;go_wp2
  exact⟨⟨j+1,rfl,by omega,⟨_,HN8.out,HO8.out,HW8.out⟩,HSP8.out⟩,by simp[intOf];omega⟩
theorem qd5 (big:Bool)(v:Nat→Nat)(a1 a2:Option Addr)(l1 l2 c1 c2:Nat)(kz:List Int)(kv:Value)(w:World)(hP:ParOk big v)(hl1:l1≤sB big)(hl2:l2≤sB big)(hK:Hold w kv kz)(hkl:kz.length≤mB big)(hk:kz.length=0∨kz.length=v 2):
  Calls Tryz.prog 105 #[.int .i64 (kB big),parN v (.slice a1 l1 c1) (.slice a2 l2 c2),kv] w fun e w'=> ∃np mv,e= .returned (.tuple #[.pointer (some ⟨np,0,none⟩),.int .i64 0])∧w.heap.size≤np∧yu big w' np v (.slice a1 l1 c1) (.slice a2 l2 c2) kv false mv 0∧w'.ownsRow w.heap.size 5 1 mv (QY (bB big) kz).length ((QY (bB big) kz).map qo)∧Below w.heap.size w w':=by
 obtain⟨b0,hb0⟩:=Ex w.heap.size;obtain⟨ka,kc,rfl,hkc1,hkc2⟩:=hK.slice;have HCK:=hid (zi hP a1 a2 c1 c2 hl1 hl2);have hbA:Below b0 w (w.alloc (.cells #[.int .i64 (v 1:Nat),.int .i64 (v 2:Nat),.int .i64 (v 3:Nat),.int .i64 (v 4:Nat),.int .u32 (v 5:Nat),.int .u64 (v 6:Nat),.int .u32 (v 7:Nat),.int .i64 (v 8:Nat),.int .i64 (v 9:Nat),.slice a1 l1 c1,.slice a2 l2 c2] 72)):=by rw[←hb0];exact Br.alloc Nl _
 have hrA:=Wn w (.cells #[.int .i64 (v 1:Nat),.int .i64 (v 2:Nat),.int .i64 (v 3:Nat),.int .i64 (v 4:Nat),.int .u32 (v 5:Nat),.int .u64 (v 6:Nat),.int .u32 (v 7:Nat),.int .i64 (v 8:Nat),.int .i64 (v 9:Nat),.slice a1 l1 c1,.slice a2 l2 c2] 72);rw[hb0]at hrA;have hq:(((kz.length:Int) != 0)&&((kz.length:Int) != (v 2:Nat)))=false:=by rcases hk with h|h<;>simp[h]
 obtain⟨q0,hq0⟩: ∃q,((kz.length:Int) != 0)=q:=⟨_,rfl⟩;obtain⟨q1,hq1⟩: ∃q,((kz.length:Int) != (v 2:Nat))=q:=⟨_,rfl⟩;rw[hq0,hq1]at hq;have HK_:=hid hK;have HKL_:=hid hkl;clear hP hl1 hl2 hK hkl hk hkc1 hkc2;unfold parN yq;unfold parN yq at HCK;go_enter Tryz.func105,Tryz.ntmps105
 go_upto_region 1 with(fail)
 generalize w.alloc (.cells #[.int .i64 (v 1:Nat),.int .i64 (v 2:Nat),.int .i64 (v 3:Nat),.int .i64 (v 4:Nat),.int .u32 (v 5:Nat),.int .u64 (v 6:Nat),.int .u32 (v 7:Nat),.int .i64 (v 8:Nat),.int .i64 (v 9:Nat),.slice a1 l1 c1,.slice a2 l2 c2] 72)=wA at*;go_wp2_with ((with_reducible show wpList _ _ _ (Oper.mk _ (Op.load 72 _) _ _ _ _::_) _ _);refine wpList_load_row rfl 72 _ rfl b0 rfl _ _ _ _ hrA Tryz.underlying72 rfl (by kernel_rfl) ?_)
 refine(HCK.out wA).mono ?_;rintro e w1 ⟨rfl,hb1⟩;have hr1:=qe hrA hb1;have hs1:=hb1.size;have hb0A:b0<wA.heap.size:=(Ai hrA).1;have hb01:b0<w1.heap.size:=by omega
 have hbB:Below b0 w w1:=hbA.trans (hb1.mono (by omega));have c1k:w1.cell? ⟨b0,1,none⟩=some (.int .i64 (v 2:Nat)):=qa hr1 1;have HBB:=hid hbB;have HR1:=hid hr1;clear hb1 hbA hrA hbB hs1 hb0A HCK
 cases q0<;>cases q1<;>first|(exfalso;cases hq;done)|skip
 all_goals
  clear hq;go_upto_region 7 with((with_reducible show wpList _ _ _ (Oper.mk _ (Op.load 72 _) _ _ _ _::_) _ _);refine wpList_load_row rfl 72 _ rfl b0 rfl _ _ _ _ hr1 Tryz.underlying72 rfl (by kernel_rfl) ?_)
  change Code.wp _ _ _ _ (w1.alloc (.cells (rN (kB big) v (.slice a1 l1 c1) (.slice a2 l2 c2) (.slice ka kz.length kc) false (.slice none 0 0) 0) 183))
  have hN2:yu big (w1.alloc (.cells (rN (kB big) v (.slice a1 l1 c1) (.slice a2 l2 c2) (.slice ka kz.length kc) false (.slice none 0 0) 0) 183)) w1.heap.size v (.slice a1 l1 c1) (.slice a2 l2 c2) (.slice ka kz.length kc) false (.slice none 0 0) 0:=Wn _ _;have hb2:Below b0 w (w1.alloc (.cells (rN (kB big) v (.slice a1 l1 c1) (.slice a2 l2 c2) (.slice ka kz.length kc) false (.slice none 0 0) 0) 183)):=HBB.out.alloc (by omega) _;obtain⟨np,hnp⟩:=Ex w1.heap.size;rw[hnp]at hN2 hb01⊢;generalize (w1.alloc (.cells (rN (kB big) v (.slice a1 l1 c1) (.slice a2 l2 c2) (.slice ka kz.length kc) false (.slice none 0 0) 0) 183))=W2 at*;have HN2:=hid hN2;have HB2:=hid hb2;have hks:=(HK_.out.below (hb0▸hb2));have HKS:=hid hks;have hs2:np<W2.heap.size:=(Ai hN2).1;clear hN2 hb2 hks c1k HR1 hr1 HBB;go_wp2_with fail
  refine(qbY big kz _ W2 HKS.out HKL_.out).mono ?_;rintro e w3 ⟨mv,rfl,ho,hb3⟩;obtain⟨ma,mn,mc,rfl⟩:=qp ho;have hr3:=qe HN2.out hb3;have c33:w3.cell? ⟨np,33,none⟩=some (.slice none 0 0):=qa hr3 33;have f33:=frozen_of_row w3 np 33 _ _ hr3;have hn3:np<w3.heap.size:=(Ai hr3).1;have hb4:Below b0 w w3:=HB2.out.trans (hb3.mono (by omega));have hbn:But np w3 (w3.setCell ⟨np,33,none⟩ (.slice ma mn mc)):=(But.refl np w3).set 33 _;have ho5:(w3.setCell ⟨np,33,none⟩ (.slice ma mn mc)).ownsRow w.heap.size 5 1 (.slice ma mn mc) (QY (bB big) kz).length ((QY (bB big) kz).map qo):=by
   rcases ho.2 with⟨h2,h3⟩|⟨g,cap,cur,h2,h3,h4,h5⟩
   ·exact⟨ho.1,.inl ⟨h2,h3⟩⟩
   ·refine⟨ho.1,.inr ⟨g,cap,cur,h2,by omega,?_,h5⟩⟩;rw[hbn.block g (Ai h4).1 (by omega)];exact h4
  have HF:=hid (show yu big (w3.setCell ⟨np,33,none⟩ (.slice ma mn mc)) np v (.slice a1 l1 c1) (.slice a2 l2 c2) (.slice ka kz.length kc) false (.slice ma mn mc) 0 from qaJ hr3);have HO:=hid ho5;have HBF:=hid (show Below b0 w (w3.setCell ⟨np,33,none⟩ (.slice ma mn mc)) from hb4.setCell (by show b0≤np;omega) _);clear ho hb3 hr3 hb4 hbn ho5;go_wp2
  go_ret2
  exact⟨np,_,rfl,by omega,HF.out,HO.out,by rw[hb0];exact HBF.out⟩
theorem Y9 {P:Program}{fn:Func}{p u1 u2 u3:Tmp}{ty:TypeId}(h:fn.results= #[.cell p ty,.tmp u1,.tmp u2,.tmp u3])(tmps:Array Value)(w:World)(g:Nat)(t:TypeId)(cs:Array Value)(fr:Nat×Nat)(d:TypeDesc)
  (hp:tmps.getD p undef= .pointer (some ⟨g,0,none⟩)) (hg:w.heap[g]? =some (.cells cs t fr))
  (hu:P.underlying ty=some d) (hd:(match d with| .struct _| .array _ _=>true|_=>false)=true) (hi:(P.info? ty).map (·.size)=some cs.size):
  (results fn tmps).run P w= .ok (.tuple #[.agg cs,tmps.getD u1 undef,tmps.getD u2 undef,tmps.getD u3 undef]) w:=by
 have hp':tmps[p]?.getD undef= .pointer (some ⟨g,0,none⟩):=by simpa using hp
 simp[results,h,hp',asAddr,run_loadVar_row w g t ty cs fr d hg hu hd hi]
theorem qe8 {n L k:Nat}(hn:0<n)(hk:k≤nbk n L):(n*k+n<L↔k<nbk n L):=by
 have h1:=yv hn L;have e:n*(k+1)=n*k+n:=Nat.mul_succ _ _;constructor
 ·intro h;refine Nat.lt_of_le_of_ne hk fun e2=>?_
  rw[e2]at h;omega
 ·intro h;have h2:n*(k+1)≤n*nbk n L:=Nat.mul_le_mul_left _ h;by_cases h0:0<L
  ·have:=h1.2.2 h0;omega
  ·have:L=0:=by omega
   subst this;rw[qb6]at h;omega
theorem JG (v:Nat→Nat)(z1 z2 msg:List Int)(sa pe kv mv:Value)(la:Bool)(cnt:Int)(np:Nat)(w:World)(hN:yu true w np v sa pe kv la mv cnt)(hP:ParOk true v)(h1:Hold w sa z1)(h2:Hold w pe z2)(hl1:z1.length≤16)(hl2:z2.length≤16)(hM:Hold w mv msg)(hml:(msg.length:Int)≤281474976710656):
  Calls Tryz.prog 127 #[.pointer (some ⟨np,0,none⟩)] w fun e w'=>e= .returned (.tuple #[.agg (qh .u64 (qB (stZ true (h0Z true (QH true v z1 z2)) msg (nbk 128 msg.length)))),.int .u64 ((128*nbk 128 msg.length:Nat):Int),.int .u64 0,.int .i64 ((128*nbk 128 msg.length:Nat):Int)])∧Below w.heap.size w w':=by
 obtain⟨b0,hb0⟩:=Ex w.heap.size;obtain⟨ma,mc,rfl,hmc1,hmc2⟩:=hM.slice;have hnp:np<b0:=by rw[←hb0];exact(Ai hN).1
 have hFI:=fun(W:World) (hb:Below b0 w W)=>qaq v z1 z2 sa pe kv (.slice ma msg.length mc) la cnt np W ((hb.block np hnp).trans hN) hP (h1.below (hb0▸hb)) (h2.below (hb0▸hb)) hl1 hl2
 have hMW:=fun(W:World) (hb:Below b0 w W)=>hM.below (hb0▸hb)
 have hH0w:=QC true (QH true v z1 z2);generalize h0Z true (QH true v z1 z2)=H0 at*;have hSW:=fun k=>ym true hH0w msg k
 obtain⟨Q,hQ⟩:=Ex (nbk 128 msg.length);have hlt:=fun(k:Nat) (hk:k≤Q)=>(hQ▸qe8 (n:=128) (L:=msg.length) (by decide) (hQ▸hk):(128*k+128<msg.length↔k<Q))
 have hQl:128*Q≤msg.length:=by rw[←hQ];exact(yv (by decide) _).1
 rw[hQ];have hN':w.heap[np]? =some (.cells (rN 1 v sa pe kv la (.slice ma msg.length mc) cnt) 183 (0,0)):=hN;have HFI_:=hid hFI;have HMW_:=hid hMW;have HSW_:=hid hSW;have HLT_:=hid hlt;have HNR_:=hid hN';have HBM:=hid hM.1;clear hN hN' hFI hMW hSW hQ hlt hP h1 h2 hM hmc1 hmc2 hl1 hl2;go_enter Tryz.func127,Tryz.ntmps127
 go_wp2_with fail
 have hb1:Below b0 w (w.alloc (.cells #[.int .u64 0,.int .u64 0,.int .u64 0,.int .u64 0,.int .u64 0,.int .u64 0,.int .u64 0,.int .u64 0,.int .u64 0,.int .u64 0,.int .u64 0,.int .u64 0,.int .u64 0,.int .u64 0,.int .u64 0,.int .u64 0] 181)):=by rw[←hb0];exact Br.alloc Nl _
 have r0:(w.alloc (.cells #[.int .u64 0,.int .u64 0,.int .u64 0,.int .u64 0,.int .u64 0,.int .u64 0,.int .u64 0,.int .u64 0,.int .u64 0,.int .u64 0,.int .u64 0,.int .u64 0,.int .u64 0,.int .u64 0,.int .u64 0,.int .u64 0] 181)).heap[b0]? =some (.cells #[.int .u64 0,.int .u64 0,.int .u64 0,.int .u64 0,.int .u64 0,.int .u64 0,.int .u64 0,.int .u64 0,.int .u64 0,.int .u64 0,.int .u64 0,.int .u64 0,.int .u64 0,.int .u64 0,.int .u64 0,.int .u64 0] 181 (0,0)):=by rw[←hb0];exact Wn _ _
 have hs1:(w.alloc (.cells #[.int .u64 0,.int .u64 0,.int .u64 0,.int .u64 0,.int .u64 0,.int .u64 0,.int .u64 0,.int .u64 0,.int .u64 0,.int .u64 0,.int .u64 0,.int .u64 0,.int .u64 0,.int .u64 0,.int .u64 0,.int .u64 0] 181)).heap.size=b0+1:=by simp[hb0]
 generalize (w.alloc (.cells #[.int .u64 0,.int .u64 0,.int .u64 0,.int .u64 0,.int .u64 0,.int .u64 0,.int .u64 0,.int .u64 0,.int .u64 0,.int .u64 0,.int .u64 0,.int .u64 0,.int .u64 0,.int .u64 0,.int .u64 0,.int .u64 0] 181))=W1 at*;refine(HFI_.out W1 hb1).mono ?_;rintro e w2 ⟨rfl,hb2⟩;have hs2:=hb2.size;have r02:=qe r0 hb2;have hbw:=hb1.trans (hb2.mono (by omega));have R0:=hid r02;have HBW:=hid hbw;clear hb1 r0 hb2 r02 hbw HFI_;have HH0:=hid (qP (by decide) hH0w);clear hH0w;go_upto_region 2 with((with_reducible show wpList _ _ _ (Oper.mk none (Op.store 181 _ _) _ _ _ _::_) _ _);refine wpList_store_row rfl 181 _ _ rfl w2.heap.size (qh .u64 (qB H0)) rfl rfl 181 _ (Wn _ _) (by rw[qd,HH0.out.1];kernel_rfl) (by rw[qd,HH0.out.1];rfl) qv ?_)
 refine qj ?_;intro W hW;obtain⟨b6,hb6⟩:=Ex w2.heap.size;have m6:W.heap[b6]? =some (.cells (qh .u64 (qB (stZ true H0 msg 0))) 181 (0,0)):=by rw[hW,←hb6];exact setRow_heap _ _ _ _ _ _ (Wn _ _)
 have m0:W.heap[b0]? =some (.cells #[.int .u64 0,.int .u64 0,.int .u64 0,.int .u64 0,.int .u64 0,.int .u64 0,.int .u64 0,.int .u64 0,.int .u64 0,.int .u64 0,.int .u64 0,.int .u64 0,.int .u64 0,.int .u64 0,.int .u64 0,.int .u64 0] 181 (0,0)):=by rw[hW];exact(setRow_other (w2.alloc _) _ _ _ (by omega)).trans ((Bh _ _ _ (by omega)).trans R0.out)
 have hBW2:Below b0 w W:=by rw[hW];exact below_setRow (HBW.out.alloc (by omega) _) (by omega) _
 have mn:W.heap[np]? =some (.cells (rN 1 v sa pe kv la (.slice ma msg.length mc) cnt) 183 (0,0)):=(hBW2.block np hnp).trans HNR_.out;rw[hb6];have hb06:b0<b6:=by omega
 have hWs:b6<W.heap.size:=(Ai m6).1;have c31:W.cell? ⟨np,31,none⟩=some (.int .u64 0):=qa mn 31;have c32:W.cell? ⟨np,32,none⟩=some (.int .u64 0):=qa mn 32;have c00:W.cell? ⟨np,0,none⟩=some (.int .i64 1):=qa mn 0;have M6:=hid m6;have M0:=hid m0;have MN:=hid mn;have HB2:=hid hBW2;clear hW hb6 m6 m0 mn hBW2 R0 HBW hs1 hs2;go_wp2_with fail
 refine(Yj true _).mono ?_;rintro e w4 ⟨rfl,hw⟩;rw[hw];clear hw;rw[show((bB true:Nat):Int)=128 from rfl];go_wp2_with fail
 go_loopw [7,8,10] (fun lo hi at_ wr=> ∃k:Nat,lo= .int .u64 ((128*k:Nat):Int)∧hi= .int .u64 0∧at_= .int .i64 ((128*k:Nat):Int)∧k≤Q∧wr.heap[b6]? =some (.cells (qh .u64 (qB (stZ true H0 msg k))) 181 (0,0))∧But b6 W wr) (fun _ _ at_ _=>msg.length - (intOf at_).toNat)
 case atStart=>exact⟨0,rfl,rfl,rfl,Nat.zero_le _,M6.out,But.refl _ _⟩
 case round=>
  obtain⟨k,rfl,rfl,rfl,hk,hrow,hb⟩:=hrel;have hwrs:b6<wr.heap.size:=by have:=hb.size;omega
  have hn:=(hb.block np (by omega) (by omega)).trans MN.out;have c33:wr.cell? ⟨np,33,none⟩=some (.slice ma msg.length mc):=qa hn 33;have hnw:np<wr.heap.size:=by omega
  have hbB:Below b0 w wr:=HB2.out.trans (hb.below (by omega) (by omega));have hLT:=HLT_.out k hk;have hsl:128*k≤128*Q:=Nat.mul_le_mul_left _ hk;obtain⟨s,hs⟩:=Ex (128*k);have hs2:128*(k+1)=s+128:=by rw[←hs];exact Nat.mul_succ _ _
  have HBLK:=hid (show jQ 128 msg k=Qp 128 ((msg.drop s).take 128) by unfold jQ;rw[hs]);have HS2:=hid hs2;have HS:=hid hs;rw[hs]at hLT hsl⊢;have hsw:=HSW_.out k;have hst1:stZ true H0 msg (k+1)=Q5 true (stZ true H0 msg k) (Qp 128 ((msg.drop s).take 128)) ((s+128:Nat):Int) false false:=by
   show Q5 true (stZ true H0 msg k) (jQ (bB true) msg k) ((bB true*(k+1):Nat):Int) false false=_
   rw[show bB true=128 from rfl,HBLK.out,hs2]
  have HROWk:=hid hrow;have HBk:=hid hb;have HNk:=hid hn;have HBBk:=hid hbB;have HSWk:=hid hsw;have HST1k:=hid hst1;clear hs hs2;have hsL:(s:Int)≤msg.length:=by omega
  by_cases hlt:k<Q
  case neg=>
   obtain rfl:k=Q:=by omega
   have hge: ¬((s:Int)+128<msg.length):=by have:=hLT;omega
   have n0:=(hb.block b0 (by omega) (by omega)).trans M0.out;have hR16:=qP (by decide) hsw;have hwr0:b0<wr.heap.size:=by omega
   clear hb hn hbB hsw hst1 hLT hlt hsl;go_wp2_with (first|((with_reducible show wpList _ _ _ (Oper.mk (some 62) _ _ _ _ _::_) _ _);refine wpList_load_row rfl 181 _ rfl b6 rfl _ _ _ _ hrow Tryz.underlying181 rfl (by rw[qd,hR16.1];kernel_rfl) ?_)|((with_reducible show wpList _ _ _ (Oper.mk none (Op.store 181 _ _) _ _ _ _::_) _ _);refine wpList_store_row rfl 181 _ _ rfl b0 (qh .u64 (qB (stZ true H0 msg k))) rfl rfl 181 _ n0 (by rw[qd,hR16.1];kernel_rfl) (by rw[qd,hR16.1];rfl) qv ?_))
   exact Bp (Y9 rfl _ _ b0 181 _ _ _ rfl (setRow_heap _ _ _ _ _ _ n0) Tryz.underlying181 rfl (by rw[qd,hR16.1];kernel_rfl)) rfl ⟨by rw[show((128:Int)*(k:Int))=(s:Int) from by have:=HS.out;omega];rfl,by first|exact below_setRow HBBk.out Nl _|(rw[hb0];exact below_setRow HBBk.out Nl _)⟩
  have hlt2:(s:Int)+128<msg.length:=by have:=hLT.2 hlt;omega
  have hs47:(s:Int)+128<9223372036854775808:=by omega
  have HS47:=hid hs47;clear hrow hb hn hbB hsw hst1 hLT hsl hs47;go_wp2_with fail
  refine(Zk s 128 (by omega) _).mono ?_;rintro e w4 ⟨rfl,hw⟩;rw[hw];clear hw;go_upto_region 8 with(fail)
  refine qy (n:=15) (w0:=wr) (B:=wr.heap.size) [.v 44 (.pointer (some ⟨np,0,none⟩)),.v 45 (.pointer (some ⟨np,0,none⟩)),.v 46 (.pointer (some ⟨np,0,none⟩)),.v 47 (.int .i64 1),.v 48 (.agg (qh .u64 (qB (stZ true H0 msg k)))),.v 49 (.pointer (some ⟨np,0,none⟩)),.v 50 (.pointer (some ⟨np,0,none⟩)),.v 51 (.pointer (some ⟨np,33,none⟩)),.v 52 (.slice ma msg.length mc),.v 53 (.int .i64 (s:Nat)),.v 54 (.int .i64 128),.p 55 (fun u W=>W.ownsRow wr.heap.size 5 1 u 128 ((Qp 128 ((msg.drop s).take 128)).map qo)),.v 56 (.int .u64 ((s:Int)+128)),.v 57 (.int .u64 0),.v 58 (.agg (qh .u64 (qB (stZ true H0 msg (k+1)))))] (by exact⟨(fun _ _ _ h hb=>qf h (fun g _ hg=>hb.block g hg)),trivial⟩) Br.drew Nl ?_ ?_
  ·repeat' (with_reducible first|exact qw|refine qu ?_ ?_)
   all_goals try
    intro A x W hA hW hBW hdep D K hK;have a0:=hA.2 0 (by decide);conv at a0=>rhs;whnf
    have a10:=hA.2 10 (by decide);conv at a10=>rhs;whnf
    have a9:=hA.2 9 (by decide);conv at a9=>rhs;whnf
    have a7:=hA.2 7 (by decide);conv at a7=>rhs;whnf
    have a8:=hA.2 8 (by decide);conv at a8=>rhs;whnf
    simp only[QN,Q0]at D;clear hdep hA;go_simp
    exact hK _ _ BR rfl
   ·intro A x W hA hW hBW hdep _ K hK;have g46:=gv hA hdep 2 46;clear hdep hA;have g0:=qe HNk.out hW;have c0:W.cell? ⟨np,0,none⟩=some (.int .i64 1):=qa g0 0;go_simp
    exact hK _ _ BR rfl
   ·intro A x W hA hW hBW hdep _ K hK;have a6:=hA.2 6 (by decide);conv at a6=>rhs;whnf
    clear hdep hA;have g0:=qe HROWk.out hW;have hR16:=qP (by decide) HSWk.out;refine wp_load_row 181 _ rfl b6 a6 _ _ _ _ g0 Tryz.underlying181 rfl (by rw[qd,hR16.1];kernel_rfl) (hK _ _ Br rfl)
   ·intro A x W hA hW hBW hdep _ K hK;have g51:=gv hA hdep 7 51;clear hdep hA;have g0:=qe HNk.out hW;have c0:W.cell? ⟨np,33,none⟩=some (.slice ma msg.length mc):=qa g0 33;go_simp
    exact hK _ _ BR rfl
   ·intro A x W hA hW hBW hdep _ K hK;have g52:=gv hA hdep 8 52;have g53:=gv hA hdep 9 53;have g54:=gv hA hdep 10 54;clear hdep hA;go_simp
    refine(Zj msg _ s 128 W (HMW_.out W (HBBk.out.trans (hW.mono (by omega)))) (by decide) (by omega) hml).mono ?_;rintro e w' ⟨u,rfl,ho,hb⟩;exact hK _ _ hb (ownsRow_le ho hBW)
   ·intro A x W hA hW hBW hdep _ K hK;have g47:=gv hA hdep 3 47;have g48:=gv hA hdep 4 48;have g55:(fun u W=>W.ownsRow wr.heap.size 5 1 u 128 ((Qp 128 ((msg.drop s).take 128)).map qo)) (x 55) W:=hdep ⟨11,.data⟩ (by simp) rfl _ rfl;have a55:A.tmps.getD 55 undef=x 55:=hA.1 55 (by decide);have g56:=gv hA hdep 12 56;have g57:=gv hA hdep 13 57;clear hdep hA;have hbz:=QR (n:=128) (zs:=(msg.drop s).take 128) (fun z hz=>HBM.out z (List.mem_of_mem_drop (List.mem_of_mem_take hz)));go_simp
    rw[show(s:Int)+128=((s+128:Nat):Int) from rfl];refine(JJ (stZ true H0 msg k) (Qp 128 ((msg.drop s).take 128)) HSWk.out _ (s+128) HS47.out false false W (QK g55) hbz (Qv (List.length_take_le _ _))).mono ?_;rintro e w' ⟨rfl,hb⟩;rw[←HST1k.out];exact hK _ _ hb rfl
  intro x W hW hBW hall;obtain⟨e55, -⟩:=hall;change (fun u W=>W.ownsRow wr.heap.size 5 1 u 128 ((Qp 128 ((msg.drop s).take 128)).map qo)) (x 55) W at e55
  refine qn ?_;simp only[Qw,Act.put,Ls];have hr9:=qe HROWk.out hW;have hR16:=qP (by decide) (HSW_.out (k+1));have hR17:=qP (by decide) HSWk.out;refine wpList_store_row rfl 181 _ _ rfl b6 (qh .u64 (qB (stZ true H0 msg (k+1)))) rfl rfl 181 _ hr9 (by rw[qd,hR16.1];kernel_rfl) (by rw[qd,qd,hR16.1,hR17.1]) qv ?_;refine qt ?_;have HA:=hid (setRow_heap _ b6 _ (qh .u64 (qB (stZ true H0 msg (k+1)))) _ _ hr9);have HC:=hid (HBk.out.trans ((But.of_below hW).trans (But.of_setRow _ b6 (qh .u64 (qB (stZ true H0 msg (k+1)))))));clear hr9 hR16 hR17 e55 hW hBW c33 hnw hwrs;go_wp2
  refine⟨⟨k+1,by rw[HS2.out];rfl,rfl,by rw[HS2.out];rfl,by omega,HA.out,HC.out⟩,?_⟩;simp[intOf];omega
theorem Jn (v:Nat→Nat)(z1 z2 msg:List Int)(sa pe kv mv:Value)(la:Bool)(cnt:Int)(np:Nat)(w:World)(hN:yu false w np v sa pe kv la mv cnt)(hP:ParOk false v)(h1:Hold w sa z1)(h2:Hold w pe z2)(hl1:z1.length≤8)(hl2:z2.length≤8)(hM:Hold w mv msg)(hml:(msg.length:Int)≤281474976710656):
  Calls Tryz.prog 127 #[.pointer (some ⟨np,0,none⟩)] w fun e w'=>e= .returned (.tuple #[.agg (qh .u64 (qB (stZ false (h0Z false (QH false v z1 z2)) msg (nbk 64 msg.length)))),.int .u64 ((64*nbk 64 msg.length:Nat):Int),.int .u64 0,.int .i64 ((64*nbk 64 msg.length:Nat):Int)])∧Below w.heap.size w w':=by
 obtain⟨b0,hb0⟩:=Ex w.heap.size;obtain⟨ma,mc,rfl,hmc1,hmc2⟩:=hM.slice;have hnp:np<b0:=by rw[←hb0];exact(Ai hN).1
 have hFI:=fun(W:World) (hb:Below b0 w W)=>JM v z1 z2 sa pe kv (.slice ma msg.length mc) la cnt np W ((hb.block np hnp).trans hN) hP (h1.below (hb0▸hb)) (h2.below (hb0▸hb)) hl1 hl2
 have hMW:=fun(W:World) (hb:Below b0 w W)=>hM.below (hb0▸hb)
 have hH0w:=QC false (QH false v z1 z2);generalize h0Z false (QH false v z1 z2)=H0 at*;have hSW:=fun k=>ym false hH0w msg k
 obtain⟨Q,hQ⟩:=Ex (nbk 64 msg.length);have hlt:=fun(k:Nat) (hk:k≤Q)=>(hQ▸qe8 (n:=64) (L:=msg.length) (by decide) (hQ▸hk):(64*k+64<msg.length↔k<Q))
 have hQl:64*Q≤msg.length:=by rw[←hQ];exact(yv (by decide) _).1
 rw[hQ];have hN':w.heap[np]? =some (.cells (rN 2 v sa pe kv la (.slice ma msg.length mc) cnt) 183 (0,0)):=hN;have HFI_:=hid hFI;have HMW_:=hid hMW;have HSW_:=hid hSW;have HLT_:=hid hlt;have HNR_:=hid hN';have HBM:=hid hM.1;clear hN hN' hFI hMW hSW hQ hlt hP h1 h2 hM hmc1 hmc2 hl1 hl2;go_enter Tryz.func127,Tryz.ntmps127
 go_wp2_with fail
 have hb1:Below b0 w (w.alloc (.cells #[.int .u64 0,.int .u64 0,.int .u64 0,.int .u64 0,.int .u64 0,.int .u64 0,.int .u64 0,.int .u64 0,.int .u64 0,.int .u64 0,.int .u64 0,.int .u64 0,.int .u64 0,.int .u64 0,.int .u64 0,.int .u64 0] 181)):=by rw[←hb0];exact Br.alloc Nl _
 have r0:(w.alloc (.cells #[.int .u64 0,.int .u64 0,.int .u64 0,.int .u64 0,.int .u64 0,.int .u64 0,.int .u64 0,.int .u64 0,.int .u64 0,.int .u64 0,.int .u64 0,.int .u64 0,.int .u64 0,.int .u64 0,.int .u64 0,.int .u64 0] 181)).heap[b0]? =some (.cells #[.int .u64 0,.int .u64 0,.int .u64 0,.int .u64 0,.int .u64 0,.int .u64 0,.int .u64 0,.int .u64 0,.int .u64 0,.int .u64 0,.int .u64 0,.int .u64 0,.int .u64 0,.int .u64 0,.int .u64 0,.int .u64 0] 181 (0,0)):=by rw[←hb0];exact Wn _ _
 have hs1:(w.alloc (.cells #[.int .u64 0,.int .u64 0,.int .u64 0,.int .u64 0,.int .u64 0,.int .u64 0,.int .u64 0,.int .u64 0,.int .u64 0,.int .u64 0,.int .u64 0,.int .u64 0,.int .u64 0,.int .u64 0,.int .u64 0,.int .u64 0] 181)).heap.size=b0+1:=by simp[hb0]
 generalize (w.alloc (.cells #[.int .u64 0,.int .u64 0,.int .u64 0,.int .u64 0,.int .u64 0,.int .u64 0,.int .u64 0,.int .u64 0,.int .u64 0,.int .u64 0,.int .u64 0,.int .u64 0,.int .u64 0,.int .u64 0,.int .u64 0,.int .u64 0] 181))=W1 at*;refine(HFI_.out W1 hb1).mono ?_;rintro e w2 ⟨rfl,hb2⟩;have hs2:=hb2.size;have r02:=qe r0 hb2;have hbw:=hb1.trans (hb2.mono (by omega));have R0:=hid r02;have HBW:=hid hbw;clear hb1 r0 hb2 r02 hbw HFI_;have HH0:=hid (qP (by decide) hH0w);clear hH0w;go_upto_region 2 with((with_reducible show wpList _ _ _ (Oper.mk none (Op.store 181 _ _) _ _ _ _::_) _ _);refine wpList_store_row rfl 181 _ _ rfl w2.heap.size (qh .u64 (qB H0)) rfl rfl 181 _ (Wn _ _) (by rw[qd,HH0.out.1];kernel_rfl) (by rw[qd,HH0.out.1];rfl) qv ?_)
 refine qj ?_;intro W hW;obtain⟨b6,hb6⟩:=Ex w2.heap.size;have m6:W.heap[b6]? =some (.cells (qh .u64 (qB (stZ false H0 msg 0))) 181 (0,0)):=by rw[hW,←hb6];exact setRow_heap _ _ _ _ _ _ (Wn _ _)
 have m0:W.heap[b0]? =some (.cells #[.int .u64 0,.int .u64 0,.int .u64 0,.int .u64 0,.int .u64 0,.int .u64 0,.int .u64 0,.int .u64 0,.int .u64 0,.int .u64 0,.int .u64 0,.int .u64 0,.int .u64 0,.int .u64 0,.int .u64 0,.int .u64 0] 181 (0,0)):=by rw[hW];exact(setRow_other (w2.alloc _) _ _ _ (by omega)).trans ((Bh _ _ _ (by omega)).trans R0.out)
 have hBW2:Below b0 w W:=by rw[hW];exact below_setRow (HBW.out.alloc (by omega) _) (by omega) _
 have mn:W.heap[np]? =some (.cells (rN 2 v sa pe kv la (.slice ma msg.length mc) cnt) 183 (0,0)):=(hBW2.block np hnp).trans HNR_.out;rw[hb6];have hb06:b0<b6:=by omega
 have hWs:b6<W.heap.size:=(Ai m6).1;have c31:W.cell? ⟨np,31,none⟩=some (.int .u64 0):=qa mn 31;have c32:W.cell? ⟨np,32,none⟩=some (.int .u64 0):=qa mn 32;have c00:W.cell? ⟨np,0,none⟩=some (.int .i64 2):=qa mn 0;have M6:=hid m6;have M0:=hid m0;have MN:=hid mn;have HB2:=hid hBW2;clear hW hb6 m6 m0 mn hBW2 R0 HBW hs1 hs2;go_wp2_with fail
 refine(Yj false _).mono ?_;rintro e w4 ⟨rfl,hw⟩;rw[hw];clear hw;rw[show((bB false:Nat):Int)=64 from rfl];go_wp2_with fail
 go_loopw [7,8,10] (fun lo hi at_ wr=> ∃k:Nat,lo= .int .u64 ((64*k:Nat):Int)∧hi= .int .u64 0∧at_= .int .i64 ((64*k:Nat):Int)∧k≤Q∧wr.heap[b6]? =some (.cells (qh .u64 (qB (stZ false H0 msg k))) 181 (0,0))∧But b6 W wr) (fun _ _ at_ _=>msg.length - (intOf at_).toNat)
 case atStart=>exact⟨0,rfl,rfl,rfl,Nat.zero_le _,M6.out,But.refl _ _⟩
 case round=>
  obtain⟨k,rfl,rfl,rfl,hk,hrow,hb⟩:=hrel;have hwrs:b6<wr.heap.size:=by have:=hb.size;omega
  have hn:=(hb.block np (by omega) (by omega)).trans MN.out;have c33:wr.cell? ⟨np,33,none⟩=some (.slice ma msg.length mc):=qa hn 33;have hnw:np<wr.heap.size:=by omega
  have hbB:Below b0 w wr:=HB2.out.trans (hb.below (by omega) (by omega));have hLT:=HLT_.out k hk;have hsl:64*k≤64*Q:=Nat.mul_le_mul_left _ hk;obtain⟨s,hs⟩:=Ex (64*k);have hs2:64*(k+1)=s+64:=by rw[←hs];exact Nat.mul_succ _ _
  have HBLK:=hid (show jQ 64 msg k=Qp 64 ((msg.drop s).take 64) by unfold jQ;rw[hs]);have HS2:=hid hs2;have HS:=hid hs;rw[hs]at hLT hsl⊢;have hsw:=HSW_.out k;have hst1:stZ false H0 msg (k+1)=Q5 false (stZ false H0 msg k) (Qp 64 ((msg.drop s).take 64)) ((s+64:Nat):Int) false false:=by
   show Q5 false (stZ false H0 msg k) (jQ (bB false) msg k) ((bB false*(k+1):Nat):Int) false false=_
   rw[show bB false=64 from rfl,HBLK.out,hs2]
  have HROWk:=hid hrow;have HBk:=hid hb;have HNk:=hid hn;have HBBk:=hid hbB;have HSWk:=hid hsw;have HST1k:=hid hst1;clear hs hs2;have hsL:(s:Int)≤msg.length:=by omega
  by_cases hlt:k<Q
  case neg=>
   obtain rfl:k=Q:=by omega
   have hge: ¬((s:Int)+64<msg.length):=by have:=hLT;omega
   have n0:=(hb.block b0 (by omega) (by omega)).trans M0.out;have hR16:=qP (by decide) hsw;have hwr0:b0<wr.heap.size:=by omega
   clear hb hn hbB hsw hst1 hLT hlt hsl;go_wp2_with (first|((with_reducible show wpList _ _ _ (Oper.mk (some 62) _ _ _ _ _::_) _ _);refine wpList_load_row rfl 181 _ rfl b6 rfl _ _ _ _ hrow Tryz.underlying181 rfl (by rw[qd,hR16.1];kernel_rfl) ?_)|((with_reducible show wpList _ _ _ (Oper.mk none (Op.store 181 _ _) _ _ _ _::_) _ _);refine wpList_store_row rfl 181 _ _ rfl b0 (qh .u64 (qB (stZ false H0 msg k))) rfl rfl 181 _ n0 (by rw[qd,hR16.1];kernel_rfl) (by rw[qd,hR16.1];rfl) qv ?_))
   exact Bp (Y9 rfl _ _ b0 181 _ _ _ rfl (setRow_heap _ _ _ _ _ _ n0) Tryz.underlying181 rfl (by rw[qd,hR16.1];kernel_rfl)) rfl ⟨by rw[show((64:Int)*(k:Int))=(s:Int) from by have:=HS.out;omega];rfl,by first|exact below_setRow HBBk.out Nl _|(rw[hb0];exact below_setRow HBBk.out Nl _)⟩
  have hlt2:(s:Int)+64<msg.length:=by have:=hLT.2 hlt;omega
  have hs47:(s:Int)+64<9223372036854775808:=by omega
  have HS47:=hid hs47;clear hrow hb hn hbB hsw hst1 hLT hsl hs47;go_wp2_with fail
  refine(Zk s 64 (by omega) _).mono ?_;rintro e w4 ⟨rfl,hw⟩;rw[hw];clear hw;go_upto_region 8 with(fail)
  refine qy (n:=15) (w0:=wr) (B:=wr.heap.size) [.v 44 (.pointer (some ⟨np,0,none⟩)),.v 45 (.pointer (some ⟨np,0,none⟩)),.v 46 (.pointer (some ⟨np,0,none⟩)),.v 47 (.int .i64 2),.v 48 (.agg (qh .u64 (qB (stZ false H0 msg k)))),.v 49 (.pointer (some ⟨np,0,none⟩)),.v 50 (.pointer (some ⟨np,0,none⟩)),.v 51 (.pointer (some ⟨np,33,none⟩)),.v 52 (.slice ma msg.length mc),.v 53 (.int .i64 (s:Nat)),.v 54 (.int .i64 64),.p 55 (fun u W=>W.ownsRow wr.heap.size 5 1 u 64 ((Qp 64 ((msg.drop s).take 64)).map qo)),.v 56 (.int .u64 ((s:Int)+64)),.v 57 (.int .u64 0),.v 58 (.agg (qh .u64 (qB (stZ false H0 msg (k+1)))))] (by exact⟨(fun _ _ _ h hb=>qf h (fun g _ hg=>hb.block g hg)),trivial⟩) Br.drew Nl ?_ ?_
  ·repeat' (with_reducible first|exact qw|refine qu ?_ ?_)
   all_goals try
    intro A x W hA hW hBW hdep D K hK;have a0:=hA.2 0 (by decide);conv at a0=>rhs;whnf
    have a10:=hA.2 10 (by decide);conv at a10=>rhs;whnf
    have a9:=hA.2 9 (by decide);conv at a9=>rhs;whnf
    have a7:=hA.2 7 (by decide);conv at a7=>rhs;whnf
    have a8:=hA.2 8 (by decide);conv at a8=>rhs;whnf
    simp only[QN,Q0]at D;clear hdep hA;go_simp
    exact hK _ _ BR rfl
   ·intro A x W hA hW hBW hdep _ K hK;have g46:=gv hA hdep 2 46;clear hdep hA;have g0:=qe HNk.out hW;have c0:W.cell? ⟨np,0,none⟩=some (.int .i64 2):=qa g0 0;go_simp
    exact hK _ _ BR rfl
   ·intro A x W hA hW hBW hdep _ K hK;have a6:=hA.2 6 (by decide);conv at a6=>rhs;whnf
    clear hdep hA;have g0:=qe HROWk.out hW;have hR16:=qP (by decide) HSWk.out;refine wp_load_row 181 _ rfl b6 a6 _ _ _ _ g0 Tryz.underlying181 rfl (by rw[qd,hR16.1];kernel_rfl) (hK _ _ Br rfl)
   ·intro A x W hA hW hBW hdep _ K hK;have g51:=gv hA hdep 7 51;clear hdep hA;have g0:=qe HNk.out hW;have c0:W.cell? ⟨np,33,none⟩=some (.slice ma msg.length mc):=qa g0 33;go_simp
    exact hK _ _ BR rfl
   ·intro A x W hA hW hBW hdep _ K hK;have g52:=gv hA hdep 8 52;have g53:=gv hA hdep 9 53;have g54:=gv hA hdep 10 54;clear hdep hA;go_simp
    refine(Zj msg _ s 64 W (HMW_.out W (HBBk.out.trans (hW.mono (by omega)))) (by decide) (by omega) hml).mono ?_;rintro e w' ⟨u,rfl,ho,hb⟩;exact hK _ _ hb (ownsRow_le ho hBW)
   ·intro A x W hA hW hBW hdep _ K hK;have g47:=gv hA hdep 3 47;have g48:=gv hA hdep 4 48;have g55:(fun u W=>W.ownsRow wr.heap.size 5 1 u 64 ((Qp 64 ((msg.drop s).take 64)).map qo)) (x 55) W:=hdep ⟨11,.data⟩ (by simp) rfl _ rfl;have a55:A.tmps.getD 55 undef=x 55:=hA.1 55 (by decide);have g56:=gv hA hdep 12 56;have g57:=gv hA hdep 13 57;clear hdep hA;have hbz:=QR (n:=64) (zs:=(msg.drop s).take 64) (fun z hz=>HBM.out z (List.mem_of_mem_drop (List.mem_of_mem_take hz)));go_simp
    rw[show(s:Int)+64=((s+64:Nat):Int) from rfl];refine(j8 (stZ false H0 msg k) (Qp 64 ((msg.drop s).take 64)) HSWk.out _ (s+64) HS47.out false false W (QK g55) hbz (Qv (List.length_take_le _ _))).mono ?_;rintro e w' ⟨rfl,hb⟩;rw[←HST1k.out];exact hK _ _ hb rfl
  intro x W hW hBW hall;obtain⟨e55, -⟩:=hall;change (fun u W=>W.ownsRow wr.heap.size 5 1 u 64 ((Qp 64 ((msg.drop s).take 64)).map qo)) (x 55) W at e55
  refine qn ?_;simp only[Qw,Act.put,Ls];have hr9:=qe HROWk.out hW;have hR16:=qP (by decide) (HSW_.out (k+1));have hR17:=qP (by decide) HSWk.out;refine wpList_store_row rfl 181 _ _ rfl b6 (qh .u64 (qB (stZ false H0 msg (k+1)))) rfl rfl 181 _ hr9 (by rw[qd,hR16.1];kernel_rfl) (by rw[qd,qd,hR16.1,hR17.1]) qv ?_;refine qt ?_;have HA:=hid (setRow_heap _ b6 _ (qh .u64 (qB (stZ false H0 msg (k+1)))) _ _ hr9);have HC:=hid (HBk.out.trans ((But.of_below hW).trans (But.of_setRow _ b6 (qh .u64 (qB (stZ false H0 msg (k+1)))))));clear hr9 hR16 hR17 e55 hW hBW c33 hnw hwrs;go_wp2
  refine⟨⟨k+1,by rw[HS2.out];rfl,rfl,by rw[HS2.out];rfl,by omega,HA.out,HC.out⟩,?_⟩;simp[intOf];omega
theorem zm (n:Nat){h g:List Int}: ∀i,(∀j,j<i→wd h j=wd g j)→qC n h i=qC n g i
 | 0,_=>rfl
 | i+1,H=>by rw[qC,qC,zm n i (fun j hj=>H j (by omega)),H i (by omega)]
theorem qbX (v:Nat→Nat)(z1 z2 msg:List Int)(sa pe kv mv:Value)(la:Bool)(cnt:Int)(np:Nat)(w:World)(hN:yu true w np v sa pe kv la mv cnt)(hP:ParOk true v)(h1:Hold w sa z1)(h2:Hold w pe z2)(hl1:z1.length≤16)(hl2:z2.length≤16)(hM:Hold w mv msg)(hml:(msg.length:Int)≤281474976710656):
  Calls Tryz.prog 108 #[.pointer (some ⟨np,0,none⟩)] w fun e w'=> ∃u,e= .returned u∧w'.ownsRow w.heap.size 5 1 u 64 ((YD true (h0Z true (QH true v z1 z2)) msg la).map qo)∧Below w.heap.size w w':=by
 obtain⟨b0,hb0⟩:=Ex w.heap.size;have hPA:=JG v z1 z2 msg sa pe kv mv la cnt np w hN hP h1 h2 hl1 hl2 hM hml;obtain⟨ma,mc,rfl,hmc1,hmc2⟩:=hM.slice;have hnp:np<b0:=by rw[←hb0];exact(Ai hN).1
 have hMW:=fun(W:World) (hb:Below b0 w W)=>hM.below (hb0▸hb)
 have hH0w:=QC true (QH true v z1 z2);generalize h0Z true (QH true v z1 z2)=H0 at*;have hsw:=ym true hH0w msg (nbk 128 msg.length);have hsp:=yv (n:=128) (by decide) msg.length;have hout:YD true H0 msg la=qC 8 (Q5 true (stZ true H0 msg (nbk 128 msg.length)) (Qp 128 ((msg.drop (128*nbk 128 msg.length)).take 128)) (msg.length:Int) true la) 8:=rfl;rw[hout];obtain⟨ST,hST⟩:=Ex (stZ true H0 msg (nbk 128 msg.length));obtain⟨s,hs⟩:=Ex (128*nbk 128 msg.length);rw[hST,hs]at hPA⊢;rw[hST]at hsw;rw[hs]at hsp;obtain⟨R,hR⟩:=Ex (Q5 true ST (Qp 128 ((msg.drop s).take 128)) (msg.length:Int) true la);have hRw:Words 64 8 R:=by rw[←hR];exact QA true hsw _ _ _ _
 rw[hR];have hbw:qC 8 R 8=qC 8 (qB R) 8:=zm 8 8 (fun j hj=>(Jq hRw.1 hj).symm);rw[hbw];have hsL:s≤msg.length:=hsp.1;have hN':w.heap[np]? =some (.cells (rN 1 v sa pe kv la (.slice ma msg.length mc) cnt) 183 (0,0)):=hN;have hBM:=hM.1;have HPA_:=hid hPA;have HMW_:=hid hMW;have HSW_:=hid hsw;have HR_:=hid hR;have HRW_:=hid hRw;have HNR_:=hid hN';have HBM_:=hid hBM;clear hout hbw hST hs hsp hR hRw hPA hMW hsw hN hN' hBM hH0w hP h1 h2 hM hmc1 hmc2 hl1 hl2;go_enter Tryz.func108,Tryz.ntmps108
 go_wp2_with fail
 refine HPA_.out.mono ?_;rintro e w2 ⟨rfl,hb2⟩;have HS16:=hid (qP (by decide) HSW_.out);have hs2:=hb2.size;have HB2:=hid hb2;clear hb2;go_upto_region 2 with((with_reducible show wpList _ _ _ (Oper.mk none (Op.store 181 _ _) _ _ _ _::_) _ _);refine wpList_store_row rfl 181 _ _ rfl w2.heap.size (qh .u64 (qB ST)) rfl rfl 181 _ (Wn _ _) (by rw[qd,HS16.out.1];kernel_rfl) (by rw[qd,HS16.out.1];rfl) qv ?_)
 refine qj ?_;intro W0 hW;obtain⟨b3,hb3⟩:=Ex w2.heap.size;have m3:W0.heap[b3]? =some (.cells (qh .u64 (qB ST)) 181 (0,0)):=by rw[hW,←hb3];exact setRow_heap _ _ _ _ _ _ (Wn _ _)
 have hBW2:Below b0 w W0:=by rw[hW,←hb0];exact below_setRow (HB2.out.alloc hs2 _) hs2 _
 have mn:W0.heap[np]? =some (.cells (rN 1 v sa pe kv la (.slice ma msg.length mc) cnt) 183 (0,0)):=(hBW2.block np hnp).trans HNR_.out;rw[hb3];have hb03:b0≤b3:=by omega
 have hWs:b3<W0.heap.size:=(Ai m3).1;have hnW:np<W0.heap.size:=by omega
 have c33:W0.cell? ⟨np,33,none⟩=some (.slice ma msg.length mc):=qa mn 33;have M3:=hid m3;have MN:=hid mn;have HBW2:=hid hBW2;clear hW hb3 m3 mn hBW2 HB2 hs2 HPA_;have hsi:(s:Int)≤msg.length:=by omega
 have hcv:((msg.length:Int) - s)=((msg.length - s:Nat):Int):=by omega
 have hcw:IntKind.u64.wrap ((msg.length:Int) - s)=((msg.length - s:Nat):Int):=by rw[hcv];exact u64_wrap_id _ (by omega) (by omega)
 have HCV:=hid hcv;clear hcv;go_wp2_with fail
 refine(Zk s (msg.length - s) (by omega) _).mono ?_;rintro e w4 ⟨rfl,hw⟩;rw[hw];clear hw;rw[show s+(msg.length - s)=msg.length by omega];clear hcw;go_upto_region 3 with(fail)
 refine qy (n:=29) (w0:=W0) (B:=W0.heap.size) [.v 29 (.pointer (some ⟨np,0,none⟩)),.v 30 (.pointer (some ⟨np,0,none⟩)),.v 31 (.pointer (some ⟨np,0,none⟩)),.v 32 (.int .i64 1),.v 33 (.pointer (some ⟨np,0,none⟩)),.v 34 (.pointer (some ⟨np,0,none⟩)),.v 35 (.pointer (some ⟨np,0,none⟩)),.v 36 (.int .i64 1),.v 37 (.agg (qh .u64 (qB ST))),.v 38 (.pointer (some ⟨np,0,none⟩)),.v 39 (.pointer (some ⟨np,0,none⟩)),.v 40 (.pointer (some ⟨np,33,none⟩)),.v 41 (.slice ma msg.length mc),.v 42 (.int .i64 (s:Nat)),.v 43 (.pointer (some ⟨np,0,none⟩)),.v 44 (.pointer (some ⟨np,0,none⟩)),.v 45 (.pointer (some ⟨np,0,none⟩)),.v 46 (.int .i64 1),.v 47 (.int .i64 128),.p 48 (fun u W=>W.ownsRow W0.heap.size 5 1 u 128 ((Qp 128 ((msg.drop s).take 128)).map qo)),.v 49 (.int .u64 (msg.length:Nat)),.v 50 (.int .u64 0),.v 51 (.pointer (some ⟨np,0,none⟩)),.v 52 (.pointer (some ⟨np,0,none⟩)),.v 53 (.pointer (some ⟨np,13,none⟩)),.v 54 (.bool la),.v 55 (.agg (qh .u64 (qB R))),.p 56 (fun u W=>W.ownsRow W0.heap.size 5 1 u 64 ((qC 8 (qB R) 8).map qo)),.p 2 (fun u W=>W.ownsRow W0.heap.size 5 1 u 64 ((qC 8 (qB R) 8).map qo))] (by exact⟨(fun _ _ _ h hb=>qf h (fun g _ hg=>hb.block g hg)),(fun _ _ _ h hb=>qf h (fun g _ hg=>hb.block g hg)),(fun _ _ _ h hb=>qf h (fun g _ hg=>hb.block g hg)),trivial⟩) Br.drew Nl ?_ ?_
 ·repeat' (with_reducible first|exact qw|refine qu ?_ ?_)
  all_goals try
   intro A x W hA hW hBW hdep D K hK;have a0:=hA.2 0 (by decide);conv at a0=>rhs;whnf
   have a6:=hA.2 6 (by decide);conv at a6=>rhs;whnf
   have a4:=hA.2 4 (by decide);conv at a4=>rhs;whnf
   have a5:=hA.2 5 (by decide);conv at a5=>rhs;whnf
   simp only[QN,Q0]at D;clear hdep hA;go_simp
   exact hK _ _ BR rfl
  ·intro A x W hA hW hBW hdep _ K hK;have g31:=gv hA hdep 2 31;clear hdep hA;have g0:=qe MN.out hW;have c0:W.cell? ⟨np,0,none⟩=some (.int .i64 1):=qa g0 0;go_simp
   exact hK _ _ BR rfl
  ·intro A x W hA hW hBW hdep _ K hK;have g35:=gv hA hdep 6 35;clear hdep hA;have g0:=qe MN.out hW;have c0:W.cell? ⟨np,0,none⟩=some (.int .i64 1):=qa g0 0;go_simp
   exact hK _ _ BR rfl
  ·intro A x W hA hW hBW hdep _ K hK;have a3:=hA.2 3 (by decide);conv at a3=>rhs;whnf
   clear hdep hA;have g0:=qe M3.out hW;refine wp_load_row 181 _ rfl b3 a3 _ _ _ _ g0 Tryz.underlying181 rfl (by rw[qd,HS16.out.1];kernel_rfl) (hK _ _ Br rfl)
  ·intro A x W hA hW hBW hdep _ K hK;have g40:=gv hA hdep 11 40;clear hdep hA;have g0:=qe MN.out hW;have c0:W.cell? ⟨np,33,none⟩=some (.slice ma msg.length mc):=qa g0 33;go_simp
   exact hK _ _ BR rfl
  ·intro A x W hA hW hBW hdep _ K hK;have g45:=gv hA hdep 16 45;clear hdep hA;have g0:=qe MN.out hW;have c0:W.cell? ⟨np,0,none⟩=some (.int .i64 1):=qa g0 0;go_simp
   exact hK _ _ BR rfl
  ·intro A x W hA hW hBW hdep _ K hK;have g46:=gv hA hdep 17 46;clear hdep hA;go_simp
   refine(Yj true _).mono ?_;rintro e w' ⟨rfl,hw⟩;exact hK _ _ (by rw[hw];exact Below.refl _ _) rfl
  ·intro A x W hA hW hBW hdep _ K hK;have g41:=gv hA hdep 12 41;have g42:=gv hA hdep 13 42;have g47:=gv hA hdep 18 47;clear hdep hA;go_simp
   refine(Zj msg _ s 128 W (HMW_.out W (HBW2.out.trans (hW.mono (by omega)))) (by decide) (by omega) hml).mono ?_;rintro e w' ⟨u,rfl,ho,hb⟩;exact hK _ _ hb (ownsRow_le ho hBW)
  ·intro A x W hA hW hBW hdep _ K hK;have g53:=gv hA hdep 24 53;clear hdep hA;have g0:=qe MN.out hW;have c0:W.cell? ⟨np,13,none⟩=some (.bool la):=qa g0 13;go_simp
   exact hK _ _ BR rfl
  ·intro A x W hA hW hBW hdep _ K hK;have g36:=gv hA hdep 7 36;have g37:=gv hA hdep 8 37;have g48:(fun u W=>W.ownsRow W0.heap.size 5 1 u 128 ((Qp 128 ((msg.drop s).take 128)).map qo)) (x 48) W:=hdep ⟨19,.data⟩ (by simp) rfl _ rfl;have a48:A.tmps.getD 48 undef=x 48:=hA.1 48 (by decide);have g49:=gv hA hdep 20 49;have g50:=gv hA hdep 21 50;have g54:=gv hA hdep 25 54;clear hdep hA;have hbz:=QR (n:=128) (zs:=(msg.drop s).take 128) (fun z hz=>HBM_.out z (List.mem_of_mem_drop (List.mem_of_mem_take hz)));go_simp
   refine(JJ ST (Qp 128 ((msg.drop s).take 128)) HSW_.out _ msg.length (by omega) true la W (QK g48) hbz (Qv (List.length_take_le _ _))).mono ?_;rintro e w' ⟨rfl,hb⟩;rw[HR_.out];exact hK _ _ hb rfl
  ·intro A x W hA hW hBW hdep _ K hK;have g32:=gv hA hdep 3 32;have g55:=gv hA hdep 26 55;clear hdep hA;go_simp
   refine(Ja true (qB R) (qP (by decide) HRW_.out) _).mono ?_;rintro e w' ⟨u,rfl,ho,hb⟩;exact hK _ _ hb (ownsRow_le ho hBW)
  ·intro A x W hA hW hBW hdep _ K hK;have g56:(fun u W=>W.ownsRow W0.heap.size 5 1 u 64 ((qC 8 (qB R) 8).map qo)) (x 56) W:=hdep ⟨27,.data⟩ (by simp) rfl _ rfl;have a56:A.tmps.getD 56 undef=x 56:=hA.1 56 (by decide);clear hdep hA;go_simp
   exact hK _ _ Br (a56▸g56)
 intro x W hW hBW hall;obtain⟨e48,e56,e2, -⟩:=hall;change (fun u W=>W.ownsRow W0.heap.size 5 1 u 128 ((Qp 128 ((msg.drop s).take 128)).map qo)) (x 48) W at e48
 change (fun u W=>W.ownsRow W0.heap.size 5 1 u 64 ((qC 8 (qB R) 8).map qo)) (x 56) W at e56
 change (fun u W=>W.ownsRow W0.heap.size 5 1 u 64 ((qC 8 (qB R) 8).map qo)) (x 2) W at e2
 refine qt ?_;simp only[Qw,Act.put,Ls];have E2:=hid (ownsRow_le e2 (show w.heap.size≤W0.heap.size by omega));have HBF:=hid (HBW2.out.trans (hW.mono (by omega)));clear e48 e56 e2 hW hBW;go_wp2
 go_ret
 exact⟨_,rfl,E2.out,by rw[hb0];exact HBF.out⟩
theorem qbj (v:Nat→Nat)(z1 z2 msg:List Int)(sa pe kv mv:Value)(la:Bool)(cnt:Int)(np:Nat)(w:World)(hN:yu false w np v sa pe kv la mv cnt)(hP:ParOk false v)(h1:Hold w sa z1)(h2:Hold w pe z2)(hl1:z1.length≤8)(hl2:z2.length≤8)(hM:Hold w mv msg)(hml:(msg.length:Int)≤281474976710656):
  Calls Tryz.prog 108 #[.pointer (some ⟨np,0,none⟩)] w fun e w'=> ∃u,e= .returned u∧w'.ownsRow w.heap.size 5 1 u 32 ((YD false (h0Z false (QH false v z1 z2)) msg la).map qo)∧Below w.heap.size w w':=by
 obtain⟨b0,hb0⟩:=Ex w.heap.size;have hPA:=Jn v z1 z2 msg sa pe kv mv la cnt np w hN hP h1 h2 hl1 hl2 hM hml;obtain⟨ma,mc,rfl,hmc1,hmc2⟩:=hM.slice;have hnp:np<b0:=by rw[←hb0];exact(Ai hN).1
 have hMW:=fun(W:World) (hb:Below b0 w W)=>hM.below (hb0▸hb)
 have hH0w:=QC false (QH false v z1 z2);generalize h0Z false (QH false v z1 z2)=H0 at*;have hsw:=ym false hH0w msg (nbk 64 msg.length);have hsp:=yv (n:=64) (by decide) msg.length;have hout:YD false H0 msg la=qC 4 (Q5 false (stZ false H0 msg (nbk 64 msg.length)) (Qp 64 ((msg.drop (64*nbk 64 msg.length)).take 64)) (msg.length:Int) true la) 8:=rfl;rw[hout];obtain⟨ST,hST⟩:=Ex (stZ false H0 msg (nbk 64 msg.length));obtain⟨s,hs⟩:=Ex (64*nbk 64 msg.length);rw[hST,hs]at hPA⊢;rw[hST]at hsw;rw[hs]at hsp;obtain⟨R,hR⟩:=Ex (Q5 false ST (Qp 64 ((msg.drop s).take 64)) (msg.length:Int) true la);have hRw:Words 32 8 R:=by rw[←hR];exact QA false hsw _ _ _ _
 rw[hR];have hbw:qC 4 R 8=qC 4 (qB R) 8:=zm 4 8 (fun j hj=>(Jq hRw.1 hj).symm);rw[hbw];have hsL:s≤msg.length:=hsp.1;have hN':w.heap[np]? =some (.cells (rN 2 v sa pe kv la (.slice ma msg.length mc) cnt) 183 (0,0)):=hN;have hBM:=hM.1;have HPA_:=hid hPA;have HMW_:=hid hMW;have HSW_:=hid hsw;have HR_:=hid hR;have HRW_:=hid hRw;have HNR_:=hid hN';have HBM_:=hid hBM;clear hout hbw hST hs hsp hR hRw hPA hMW hsw hN hN' hBM hH0w hP h1 h2 hM hmc1 hmc2 hl1 hl2;go_enter Tryz.func108,Tryz.ntmps108
 go_wp2_with fail
 refine HPA_.out.mono ?_;rintro e w2 ⟨rfl,hb2⟩;have HS16:=hid (qP (by decide) HSW_.out);have hs2:=hb2.size;have HB2:=hid hb2;clear hb2;go_upto_region 2 with((with_reducible show wpList _ _ _ (Oper.mk none (Op.store 181 _ _) _ _ _ _::_) _ _);refine wpList_store_row rfl 181 _ _ rfl w2.heap.size (qh .u64 (qB ST)) rfl rfl 181 _ (Wn _ _) (by rw[qd,HS16.out.1];kernel_rfl) (by rw[qd,HS16.out.1];rfl) qv ?_)
 refine qj ?_;intro W0 hW;obtain⟨b3,hb3⟩:=Ex w2.heap.size;have m3:W0.heap[b3]? =some (.cells (qh .u64 (qB ST)) 181 (0,0)):=by rw[hW,←hb3];exact setRow_heap _ _ _ _ _ _ (Wn _ _)
 have hBW2:Below b0 w W0:=by rw[hW,←hb0];exact below_setRow (HB2.out.alloc hs2 _) hs2 _
 have mn:W0.heap[np]? =some (.cells (rN 2 v sa pe kv la (.slice ma msg.length mc) cnt) 183 (0,0)):=(hBW2.block np hnp).trans HNR_.out;rw[hb3];have hb03:b0≤b3:=by omega
 have hWs:b3<W0.heap.size:=(Ai m3).1;have hnW:np<W0.heap.size:=by omega
 have c33:W0.cell? ⟨np,33,none⟩=some (.slice ma msg.length mc):=qa mn 33;have M3:=hid m3;have MN:=hid mn;have HBW2:=hid hBW2;clear hW hb3 m3 mn hBW2 HB2 hs2 HPA_;have hsi:(s:Int)≤msg.length:=by omega
 have hcv:((msg.length:Int) - s)=((msg.length - s:Nat):Int):=by omega
 have hcw:IntKind.u64.wrap ((msg.length:Int) - s)=((msg.length - s:Nat):Int):=by rw[hcv];exact u64_wrap_id _ (by omega) (by omega)
 have HCV:=hid hcv;clear hcv;go_wp2_with fail
 refine(Zk s (msg.length - s) (by omega) _).mono ?_;rintro e w4 ⟨rfl,hw⟩;rw[hw];clear hw;rw[show s+(msg.length - s)=msg.length by omega];clear hcw;go_upto_region 3 with(fail)
 refine qy (n:=29) (w0:=W0) (B:=W0.heap.size) [.v 29 (.pointer (some ⟨np,0,none⟩)),.v 30 (.pointer (some ⟨np,0,none⟩)),.v 31 (.pointer (some ⟨np,0,none⟩)),.v 32 (.int .i64 2),.v 33 (.pointer (some ⟨np,0,none⟩)),.v 34 (.pointer (some ⟨np,0,none⟩)),.v 35 (.pointer (some ⟨np,0,none⟩)),.v 36 (.int .i64 2),.v 37 (.agg (qh .u64 (qB ST))),.v 38 (.pointer (some ⟨np,0,none⟩)),.v 39 (.pointer (some ⟨np,0,none⟩)),.v 40 (.pointer (some ⟨np,33,none⟩)),.v 41 (.slice ma msg.length mc),.v 42 (.int .i64 (s:Nat)),.v 43 (.pointer (some ⟨np,0,none⟩)),.v 44 (.pointer (some ⟨np,0,none⟩)),.v 45 (.pointer (some ⟨np,0,none⟩)),.v 46 (.int .i64 2),.v 47 (.int .i64 64),.p 48 (fun u W=>W.ownsRow W0.heap.size 5 1 u 64 ((Qp 64 ((msg.drop s).take 64)).map qo)),.v 49 (.int .u64 (msg.length:Nat)),.v 50 (.int .u64 0),.v 51 (.pointer (some ⟨np,0,none⟩)),.v 52 (.pointer (some ⟨np,0,none⟩)),.v 53 (.pointer (some ⟨np,13,none⟩)),.v 54 (.bool la),.v 55 (.agg (qh .u64 (qB R))),.p 56 (fun u W=>W.ownsRow W0.heap.size 5 1 u 32 ((qC 4 (qB R) 8).map qo)),.p 2 (fun u W=>W.ownsRow W0.heap.size 5 1 u 32 ((qC 4 (qB R) 8).map qo))] (by exact⟨(fun _ _ _ h hb=>qf h (fun g _ hg=>hb.block g hg)),(fun _ _ _ h hb=>qf h (fun g _ hg=>hb.block g hg)),(fun _ _ _ h hb=>qf h (fun g _ hg=>hb.block g hg)),trivial⟩) Br.drew Nl ?_ ?_
 ·repeat' (with_reducible first|exact qw|refine qu ?_ ?_)
  all_goals try
   intro A x W hA hW hBW hdep D K hK;have a0:=hA.2 0 (by decide);conv at a0=>rhs;whnf
   have a6:=hA.2 6 (by decide);conv at a6=>rhs;whnf
   have a4:=hA.2 4 (by decide);conv at a4=>rhs;whnf
   have a5:=hA.2 5 (by decide);conv at a5=>rhs;whnf
   simp only[QN,Q0]at D;clear hdep hA;go_simp
   exact hK _ _ BR rfl
  ·intro A x W hA hW hBW hdep _ K hK;have g31:=gv hA hdep 2 31;clear hdep hA;have g0:=qe MN.out hW;have c0:W.cell? ⟨np,0,none⟩=some (.int .i64 2):=qa g0 0;go_simp
   exact hK _ _ BR rfl
  ·intro A x W hA hW hBW hdep _ K hK;have g35:=gv hA hdep 6 35;clear hdep hA;have g0:=qe MN.out hW;have c0:W.cell? ⟨np,0,none⟩=some (.int .i64 2):=qa g0 0;go_simp
   exact hK _ _ BR rfl
  ·intro A x W hA hW hBW hdep _ K hK;have a3:=hA.2 3 (by decide);conv at a3=>rhs;whnf
   clear hdep hA;have g0:=qe M3.out hW;refine wp_load_row 181 _ rfl b3 a3 _ _ _ _ g0 Tryz.underlying181 rfl (by rw[qd,HS16.out.1];kernel_rfl) (hK _ _ Br rfl)
  ·intro A x W hA hW hBW hdep _ K hK;have g40:=gv hA hdep 11 40;clear hdep hA;have g0:=qe MN.out hW;have c0:W.cell? ⟨np,33,none⟩=some (.slice ma msg.length mc):=qa g0 33;go_simp
   exact hK _ _ BR rfl
  ·intro A x W hA hW hBW hdep _ K hK;have g45:=gv hA hdep 16 45;clear hdep hA;have g0:=qe MN.out hW;have c0:W.cell? ⟨np,0,none⟩=some (.int .i64 2):=qa g0 0;go_simp
   exact hK _ _ BR rfl
  ·intro A x W hA hW hBW hdep _ K hK;have g46:=gv hA hdep 17 46;clear hdep hA;go_simp
   refine(Yj false _).mono ?_;rintro e w' ⟨rfl,hw⟩;exact hK _ _ (by rw[hw];exact Below.refl _ _) rfl
  ·intro A x W hA hW hBW hdep _ K hK;have g41:=gv hA hdep 12 41;have g42:=gv hA hdep 13 42;have g47:=gv hA hdep 18 47;clear hdep hA;go_simp
   refine(Zj msg _ s 64 W (HMW_.out W (HBW2.out.trans (hW.mono (by omega)))) (by decide) (by omega) hml).mono ?_;rintro e w' ⟨u,rfl,ho,hb⟩;exact hK _ _ hb (ownsRow_le ho hBW)
  ·intro A x W hA hW hBW hdep _ K hK;have g53:=gv hA hdep 24 53;clear hdep hA;have g0:=qe MN.out hW;have c0:W.cell? ⟨np,13,none⟩=some (.bool la):=qa g0 13;go_simp
   exact hK _ _ BR rfl
  ·intro A x W hA hW hBW hdep _ K hK;have g36:=gv hA hdep 7 36;have g37:=gv hA hdep 8 37;have g48:(fun u W=>W.ownsRow W0.heap.size 5 1 u 64 ((Qp 64 ((msg.drop s).take 64)).map qo)) (x 48) W:=hdep ⟨19,.data⟩ (by simp) rfl _ rfl;have a48:A.tmps.getD 48 undef=x 48:=hA.1 48 (by decide);have g49:=gv hA hdep 20 49;have g50:=gv hA hdep 21 50;have g54:=gv hA hdep 25 54;clear hdep hA;have hbz:=QR (n:=64) (zs:=(msg.drop s).take 64) (fun z hz=>HBM_.out z (List.mem_of_mem_drop (List.mem_of_mem_take hz)));go_simp
   refine(j8 ST (Qp 64 ((msg.drop s).take 64)) HSW_.out _ msg.length (by omega) true la W (QK g48) hbz (Qv (List.length_take_le _ _))).mono ?_;rintro e w' ⟨rfl,hb⟩;rw[HR_.out];exact hK _ _ hb rfl
  ·intro A x W hA hW hBW hdep _ K hK;have g32:=gv hA hdep 3 32;have g55:=gv hA hdep 26 55;clear hdep hA;go_simp
   refine(Ja false (qB R) (qP (by decide) HRW_.out) _).mono ?_;rintro e w' ⟨u,rfl,ho,hb⟩;exact hK _ _ hb (ownsRow_le ho hBW)
  ·intro A x W hA hW hBW hdep _ K hK;have g56:(fun u W=>W.ownsRow W0.heap.size 5 1 u 32 ((qC 4 (qB R) 8).map qo)) (x 56) W:=hdep ⟨27,.data⟩ (by simp) rfl _ rfl;have a56:A.tmps.getD 56 undef=x 56:=hA.1 56 (by decide);clear hdep hA;go_simp
   exact hK _ _ Br (a56▸g56)
 intro x W hW hBW hall;obtain⟨e48,e56,e2, -⟩:=hall;change (fun u W=>W.ownsRow W0.heap.size 5 1 u 64 ((Qp 64 ((msg.drop s).take 64)).map qo)) (x 48) W at e48
 change (fun u W=>W.ownsRow W0.heap.size 5 1 u 32 ((qC 4 (qB R) 8).map qo)) (x 56) W at e56
 change (fun u W=>W.ownsRow W0.heap.size 5 1 u 32 ((qC 4 (qB R) 8).map qo)) (x 2) W at e2
 refine qt ?_;simp only[Qw,Act.put,Ls];have E2:=hid (ownsRow_le e2 (show w.heap.size≤W0.heap.size by omega));have HBF:=hid (HBW2.out.trans (hW.mono (by omega)));clear e48 e56 e2 hW hBW;go_wp2
 go_ret
 exact⟨_,rfl,E2.out,by rw[hb0];exact HBF.out⟩
theorem qeN (big:Bool)(zs:List Int):(yX big zs).length≤sB big:=by
 unfold yX yp;simp only[List.length_take];omega
theorem qe3 (big:Bool)(zs:List Int):(Yk big zs).length≤sB big:=by
 unfold Yk yp;simp only[List.length_take];omega
theorem qa8 {big:Bool}{zs:List Int}(hz: ∀z∈zs,0≤z∧z≤255): ∀z∈yX big zs,0≤z∧z≤255:=fun z h=>hz z (List.mem_of_mem_drop (List.mem_of_mem_take (List.mem_of_mem_take h)))
theorem qbn {big:Bool}{zs:List Int}(hz: ∀z∈zs,0≤z∧z≤255): ∀z∈Yk big zs,0≤z∧z≤255:=fun z h=>hz z (List.mem_of_mem_drop (List.mem_of_mem_take (List.mem_of_mem_take h)))
theorem qeb {big:Bool}{zs:List Int}(hz: ∀z∈zs,0≤z∧z≤255)(h:okD big false zs):ParOk big (yH big false zs):=by
 obtain⟨hl,hm,hx,k1,k2,k4,k9⟩:=h;have H:=fun f h1 h2=>qJ (big:=big) (ext:=false) hz hl (f:=f) h1 h2
 have hle: ∀f,1≤f→f≤9→((yH big false zs f:Nat):Int)≤QM big false zs f:=fun f h1 h2=>by
  have:=H f h1 h2
  unfold yH;split<;>omega
 have e:=fun f h1 h2 h3=>jo (big:=big) (ext:=false) hz hl (f:=f) h1 h2 h3
 have e1:=e 1 (by omega) (by omega) (by omega);have e2:=e 2 (by omega) (by omega) (by omega);have e4:=e 4 (by omega) (by omega) (by omega);have e9:=e 9 (by omega) (by omega) (by omega);have s1:qT zs (atB big 1) (szE big false 1)=qm zs 0:=by cases big<;>simp[szE,szB,atB,Yu]
 have s2:qT zs (atB big 2) (szE big false 2)=qm zs 1:=by cases big<;>simp[szE,szB,atB,Yu]
 have s4:qT zs (atB big 4) (szE big false 4)=qm zs 3:=by cases big<;>simp[szE,szB,atB,Yu]
 have s9:qT zs (atB big 9) (szE big false 9)=qm zs (atB big 9):=by cases big<;>simp[szE,szB,atB,Yu]
 have B: ∀f n,1≤f→f≤9→szE big false f≤n→((yH big false zs f:Nat):Int)<2^(8*n):=fun f n f1 f2 hs=>by
  have h1:=(H f f1 f2).2;have h2:=hle f f1 f2;have h3:(2:Int)^(8*szE big false f)≤2^(8*n):=by exact_mod_cast Nat.pow_le_pow_right (by decide:0<2) (Nat.mul_le_mul_left 8 hs)
  omega
 refine⟨⟨?_,?_,⟨by omega,?_⟩,⟨?_,?_⟩,⟨by omega,fun hb=>?_⟩,⟨by omega,?_⟩,?_⟩,?_,?_,rfl⟩
 ·rw[e1,s1];exact k1
 ·rw[e2,s2];exact k2
 ·have:=B 3 1 (by omega) (by omega) (by cases big<;>decide);omega
 ·rw[e4,s4];exact k4 rfl
 ·have:=B 4 1 (by omega) (by omega) (by cases big<;>decide);omega
 ·have:=B 6 6 (by omega) (by omega) (by subst hb;decide);omega
 ·have:=B 8 1 (by omega) (by omega) (by cases big<;>decide);omega
 ·rw[e9,s9];exact k9
 ·have:=B 5 4 (by omega) (by omega) (by cases big<;>decide);omega
 ·have:=B 6 8 (by omega) (by omega) (by cases big<;>decide);omega
theorem qcX (big:Bool)(v:Nat→Nat)(z1 z2 msg:List Int)(sa pe kv mv:Value)(la:Bool)(cnt:Int)(np:Nat)(w:World)(hN:yu big w np v sa pe kv la mv cnt)(hP:ParOk big v)(h1:Hold w sa z1)(h2:Hold w pe z2)(hl1:z1.length≤sB big)(hl2:z2.length≤sB big)(hM:Hold w mv msg)(hml:(msg.length:Int)≤281474976710656):
  Calls Tryz.prog 108 #[.pointer (some ⟨np,0,none⟩)] w fun e w'=> ∃u,e= .returned u∧w'.ownsRow w.heap.size 5 1 u (mB big) ((YD big (h0Z big (QH big v z1 z2)) msg la).map qo)∧Below w.heap.size w w':=by
 cases big
 ·exact qbj v z1 z2 msg sa pe kv mv la cnt np w hN hP h1 h2 hl1 hl2 hM hml
 ·exact qbX v z1 z2 msg sa pe kv mv la cnt np w hN hP h1 h2 hl1 hl2 hM hml
def qfF (big:Bool)(v:Nat→Nat)(z1 z2 kz:List Int)(la:Bool)(o:Int)(ds:List Int)(w:World)(e:Ending)(w':World):Prop:=
 (∃u,e= .returned (.tuple #[u,.int .i64 0])∧Fresh w.heap.size w' u ((YD big (h0Z big (QH big v z1 z2)) (QY (bB big) kz++ds) la).take o.toNat))∧Below w.heap.size w w'
theorem qdj {base g c m:Nat}{W:World}{zs:List Int}(h:W.ownsRow base 5 1 (.slice (some ⟨g,0,none⟩) zs.length c) zs.length (zs.map qo))(hm:m≤zs.length):Fresh base W (.slice (some ⟨g,0,none⟩) m c) (zs.take m):=by
 obtain⟨cur,h2,h3,h4,h5,h6,h7⟩:=YR h;have e:(zs.take m).length=m:=by simp[List.length_take,Nat.min_eq_left hm]
 refine .inr ⟨g,c,cur,by rw[e],h5,h2,by omega,by omega,by omega,?_⟩;rw[e,List.map_take,←h4,List.take_take,Nat.min_eq_left hm]
theorem qfA (big:Bool):mB big≤bB big∧bB big≤128:=by cases big<;>decide
theorem qc0 (big:Bool)(v:Nat→Nat)(z1 z2 kz ds:List Int)(la:Bool)(o:Int)(sa pe kv dv:Value)(w:World)(hP:ParOk big v)(h1:Hold w sa z1)(h2:Hold w pe z2)(hl1:z1.length≤sB big)(hl2:z2.length≤sB big)(hK:Hold w kv kz)(hkl:kz.length≤mB big)(hk:kz.length=0∨kz.length=v 2)(hD:Hold w dv ds)(hdl:(ds.length:Int)≤140737488355200)(hbad: ¬(o<1∨(mB big:Nat)<o)):
  Calls Tryz.prog 82 #[.int .i64 (kB big),parN v sa pe,kv,.bool la,.int .i64 o,dv] w fun e w'=>qfF big v z1 z2 kz la o ds w e w':=by
 obtain⟨b0,hb0⟩:=Ex w.heap.size;obtain⟨a1,c1,rfl,hc11,hc12⟩:=h1.slice;obtain⟨a2,c2,rfl,hc21,hc22⟩:=h2.slice;have hbA:Below b0 w (w.alloc (.cells #[.int .i64 (v 1:Nat),.int .i64 (v 2:Nat),.int .i64 (v 3:Nat),.int .i64 (v 4:Nat),.int .u32 (v 5:Nat),.int .u64 (v 6:Nat),.int .u32 (v 7:Nat),.int .i64 (v 8:Nat),.int .i64 (v 9:Nat),.slice a1 z1.length c1,.slice a2 z2.length c2] 72)):=by rw[←hb0];exact Br.alloc Nl _
 have hrA:=Wn w (.cells #[.int .i64 (v 1:Nat),.int .i64 (v 2:Nat),.int .i64 (v 3:Nat),.int .i64 (v 4:Nat),.int .u32 (v 5:Nat),.int .u64 (v 6:Nat),.int .u32 (v 7:Nat),.int .i64 (v 8:Nat),.int .i64 (v 9:Nat),.slice a1 z1.length c1,.slice a2 z2.length c2] 72);rw[hb0]at hrA;have hb0A:=(Ai hrA).1;have HP_:=hid hP;have H1_:=hid h1;have H2_:=hid h2;have HK_:=hid hK;have HD_:=hid hD;have HKL_:=hid hkl;have HKK_:=hid hk;have HDL_:=hid hdl;have HL1_:=hid hl1;have HL2_:=hid hl2;clear hP h1 h2 hl1 hl2 hK hkl hk hD hdl hc11 hc12 hc21 hc22;unfold parN yq;go_enter Tryz.func82,Tryz.ntmps82
 go_upto_region 1 with(fail)
 generalize w.alloc (.cells #[.int .i64 (v 1:Nat),.int .i64 (v 2:Nat),.int .i64 (v 3:Nat),.int .i64 (v 4:Nat),.int .u32 (v 5:Nat),.int .u64 (v 6:Nat),.int .u32 (v 7:Nat),.int .i64 (v 8:Nat),.int .i64 (v 9:Nat),.slice a1 z1.length c1,.slice a2 z2.length c2] 72)=wA at*;go_wp2_with ((with_reducible show wpList _ _ _ (Oper.mk _ (Op.load 72 _) _ _ _ _::_) _ _);refine wpList_load_row rfl 72 _ rfl b0 rfl _ _ _ _ hrA Tryz.underlying72 rfl (by kernel_rfl) ?_)
 refine(qd5 big v a1 a2 z1.length z2.length c1 c2 kz kv wA HP_.out HL1_.out HL2_.out (HK_.out.below (hb0▸hbA)) HKL_.out HKK_.out).mono ?_;rintro e w1 ⟨np,mv,rfl,hnp,hN,hO,hb1⟩;have hs1:=hb1.size;have hbB:Below b0 w w1:=hbA.trans (hb1.mono (by omega));have hnps:np<w1.heap.size:=(Ai hN).1;have hmv: ∀g,mv.ownBlock=some g→b0<g:=fun g hg=>by have:=JP hO hg;omega
 have hO1:=Zm hO;have HN:=hid hN;have HO1:=hid hO1;have HBB:=hid hbB;have HMV:=hid hmv;have hnp0:b0<np:=by omega
 clear hN hO hb1 hbB hmv hO1 hrA hbA hb0A hs1 hnp wA;have HBAD:=hid hbad;have hq0:decide (o<1)=false:=decide_eq_false (by omega);have hq1:decide ((mB big:Int)<o)=false:=decide_eq_false (by omega);clear hbad;have c13:w1.cell? ⟨np,13,none⟩=some (.bool false):=qa HN.out 13;have f13:=frozen_of_row w1 np 13 _ _ HN.out;go_wp2_with fail
 refine(JL big _).mono ?_;rintro r w4 ⟨rfl,hw⟩;obtain rfl:=hw;go_upto_region 7 with(fail)
 have hbut:But np w4 (w4.setCell ⟨np,13,none⟩ (.bool la)):=(But.refl np w4).set 13 _;have HN4:=hid (show yu big (w4.setCell ⟨np,13,none⟩ (.bool la)) np v (.slice a1 z1.length c1) (.slice a2 z2.length c2) kv la mv 0 from qc3 HN.out);have HO4:=hid (yx HO1.out hbut HN.out (by decide));have HB4:=hid (show Below b0 w (w4.setCell ⟨np,13,none⟩ (.bool la)) from HBB.out.trans (hbut.below (by omega) (by omega)));obtain⟨m,hm⟩: ∃m:Nat,o=(m:Int):=⟨o.toNat,by have:=HBAD.out;omega⟩;subst hm;have hm2:m≤mB big:=by have:=HBAD.out;omega
 have HM2:=hid hm2;clear HN HO1 HBB hbut c13 f13 hq0 hq1 hm2;generalize (w4.setCell ⟨np,13,none⟩ (.bool la))=W4 at*;go_wp2_with fail
 have hkz:=Ym (n:=bB big) (key:=kz) (by have:=qfA big;have:=HKL_.out;omega);have hlen:((QY (bB big) kz++ds).length:Int)≤281474976710656:=by have:=qfA big;have:=HDL_.out;rw[List.length_append];omega
 have hmz: ∀z∈QY (bB big) kz++ds,0≤z∧z≤255:=fun z hz=>by
  rcases List.mem_append.1 hz with hz|hz
  ·exact Yn HK_.out.1 z hz
  ·exact HD_.out.1 z hz
 have HLEN:=hid hlen;have HMZ:=hid hmz;refine(qbd big v (QY (bB big) kz) ds (.slice a1 z1.length c1) (.slice a2 z2.length c2) kv mv dv la 0 np W4 HN4.out HO4.out (HD_.out.below (hb0▸HB4.out)) (fun hne b hb=>⟨fun e=>by have:=yN HD_.out hne hb;omega,fun e=>by have:=yN HD_.out hne hb;have:=HMV.out b e;omega⟩) (by have:=qfA big;have:=HDL_.out;omega)).mono ?_;rintro e w5 ⟨rfl,⟨mv5,cnt5,hn5,ho5⟩,hs5⟩;clear hkz hlen hmz;have HB5:=hid (show Below b0 w w5 from HB4.out.trans (hs5.below (by have:=HB4.out.size;omega) (fun k hk=>⟨by omega,fun e=>by have:=HMV.out k e;omega⟩)));have HN5:=hid hn5;have HO5:=hid ho5;clear hn5 ho5 hs5 HN4 HO4 HB4;go_wp2_with fail
 refine(qcX big v z1 z2 (QY (bB big) kz++ds) (.slice a1 z1.length c1) (.slice a2 z2.length c2) kv mv5 la cnt5 np w5 HN5.out HP_.out (H1_.out.below (hb0▸HB5.out)) (H2_.out.below (hb0▸HB5.out)) HL1_.out HL2_.out (Qd HO5.out HMZ.out) HLEN.out).mono ?_;rintro e w6 ⟨u,rfl,ho6,hb6⟩;have HB6:=hid (show Below b0 w w6 from HB5.out.trans (hb6.mono (by have:=HB5.out.size;omega)));have hw5:w.heap.size≤w5.heap.size:=HB5.out.size;obtain⟨u1,u2,u3,rfl⟩:=qp ho6;obtain rfl:u2=mB big:=yn ho6;obtain⟨gg,rfl⟩:=zT (Zm ho6) (by cases big<;>decide);obtain⟨cu, -, -, -, -,hk1,hk2⟩:=YR ho6;have hol:(YD big (h0Z big (QH big v z1 z2)) (QY (bB big) kz++ds) la).length=mB big:=by have:=ho6.1;simpa using this
 have hk3:(u3:Int)≤9223372036854775807:=by unfold maxLen at hk2;omega
 have hm2:=HM2.out;have hk4:(m:Int)≤u3:=by omega
 have hk5:(mB big:Int)≤(u3:Int):=by omega
 have hft:=(qdj (m:=m) (zs:=YD big (h0Z big (QH big v z1 z2)) (QY (bB big) kz++ds) la) (c:=u3) (by rw[hol];exact ho6) (by rw[hol];exact hm2)).le hw5;have HFT:=hid hft;clear hft ho6 hb6 hol hw5 hm2;go_wp2_with fail
 go_ret2
 exact⟨⟨_,rfl,HFT.out⟩,by rw[hb0];exact HB6.out⟩
theorem qcm {big ext:Bool}{zs:List Int}(hz: ∀z∈zs,0≤z∧z≤255)(hl:zs.length=mB big):((yH big ext zs 2:Nat):Int)=qm zs 1:=by
 rw[jo (big:=big) (ext:=ext) hz hl (f:=2) (by omega) (by omega) (by omega)]
 cases big<;>cases ext<;>simp[szE,szB,atB,Yu]
theorem qf0 {big ext:Bool}{bs kz:List Int}(hz: ∀z∈bs,0≤z∧z≤255)(hl:bs.length=mB big)(hk:yZ bs kz=false):kz.length=0∨kz.length=yH big ext bs 2:=by
 have h1:=qcm (ext:=ext) hz hl;unfold yZ at hk;have h2:=of_decide_eq_false hk;omega
theorem qco {big:Bool}{bs kz ds:List Int}{la:Bool}{o:Int}{w w0:World}{e:Ending}{w':World}(hz: ∀z∈bs,0≤z∧z≤255)(hok:okD big false bs)(hb:Below w0.heap.size w0 w)(h:qfF big (yH big false bs) (yX big bs) (Yk big bs) kz la o ds w e w'):
  ∃u,e= .returned (.tuple #[u,.int .i64 0])∧qag big bs kz la o ds w0 (.returned (.tuple #[u,.int .i64 0])) w':=by
 obtain⟨⟨u,rfl,h⟩,hb1⟩:=h;rw[qfz hz hok]at h;exact⟨u,rfl,⟨u,rfl,h.le hb.size⟩,hb.trans (hb1.mono hb.size)⟩
theorem qc1 (big:Bool)(bs kz ds:List Int)(la:Bool)(o:Int)(bv kv dv:Value)(w:World)(hB:Hold w bv bs)(hK:Hold w kv kz)(hD:Hold w dv ds)(hdl:(ds.length:Int)≤140737488355200)(hok:okD big false bs)(hkb0:yZ bs kz=false)(ho: ¬(o<1∨(mB big:Nat)<o)):
  Calls Tryz.prog 63 #[.agg (yw (kB big) bv kv la o dv)] w fun e w'=>qag big bs kz la o ds w e w':=by
 obtain⟨b0,hb0⟩:=Ex w.heap.size;obtain⟨ka,kc,rfl,hkc1,hkc2⟩:=hK.slice;have hbA:Below b0 w (w.alloc (.cells #[.int .i64 (kB big),bv,.slice ka kz.length kc,.bool la,.int .i64 o,dv] 40)):=by rw[←hb0];exact Br.alloc Nl _
 have hrA:=Wn w (.cells #[.int .i64 (kB big),bv,.slice ka kz.length kc,.bool la,.int .i64 o,dv] 40);rw[hb0]at hrA;have hb0A:=(Ai hrA).1;have hq:((kB big != 1)&&(kB big != 2))=false:=by cases big<;>rfl
 obtain⟨q0,hq0⟩: ∃q,(kB big != 1)=q:=⟨_,rfl⟩;obtain⟨q1,hq1⟩: ∃q,(kB big != 2)=q:=⟨_,rfl⟩;rw[hq0,hq1]at hq;obtain⟨kk,hkk⟩:=Ex (kB big);have HKK:=hid hkk;have HB_:=hid hB;have HK_:=hid hK;have HD_:=hid hD;have HDL_:=hid hdl;have HO:=hid hok;have HKF:=hid hkb0;have HOO:=hid ho;clear hB hK hD hdl hkc1 hkc2 hok hkb0 ho;show Calls _ _ #[.agg #[.int .i64 (kB big),bv,.slice ka kz.length kc,.bool la,.int .i64 o,dv]] _ _
 rw[hkk]at hbA hrA hb0A hq0 hq1⊢;clear hkk;go_enter Tryz.func63,Tryz.ntmps63
 go_upto_region 1 with(fail)
 generalize w.alloc (.cells #[.int .i64 kk,bv,.slice ka kz.length kc,.bool la,.int .i64 o,dv] 40)=wA at*;have c0:wA.cell? ⟨b0,0,none⟩=some (.int .i64 kk):=qa hrA 0;have c1:wA.cell? ⟨b0,1,none⟩=some bv:=qa hrA 1
 cases q0<;>cases q1<;>first|(exfalso;cases hq;done)|skip
 all_goals
  clear hq;go_wp2_with fail
  refine(show Calls Tryz.prog 81 #[.int .i64 kk,bv] wA _ from HKK.out▸qas big bs bv wA (HB_.out.below (hb0▸hbA)) HO.out).mono ?_;rintro e w1 ⟨⟨cs,rfl,hdc⟩,hb1⟩;have hs1:=hb1.size;have hr1:=qe hrA hb1;have hbB:Below b0 w w1:=hbA.trans (hb1.mono (by omega));have HDC:=hid hdc;have HBB:=hid hbB;have HR1:=hid hr1;clear hdc hbB hr1 hb1 hbA c0 c1 hrA;go_upto_region 7 with((with_reducible show wpList _ _ _ (Oper.mk none (Op.store 72 (Operand.tmp 5) _) _ _ _ _::_) _ _);refine wpList_store_row rfl 72 _ _ rfl w1.heap.size cs rfl rfl 72 _ (Wn _ _) (by rw[HDC.out.1];kernel_rfl) (by rw[HDC.out.1];rfl) HDC.out.2.1 ?_)
  refine qj ?_;intro W hW;obtain⟨p5,hp5⟩:=Ex w1.heap.size;have r5:W.heap[p5]? =some (.cells cs 72 (0,0)):=by rw[hW,←hp5];exact setRow_heap _ _ _ _ _ _ (Wn _ _)
  have r0:W.heap[b0]? =some (.cells #[.int .i64 kk,bv,.slice ka kz.length kc,.bool la,.int .i64 o,dv] 40 (0,0)):=by rw[hW];exact(setRow_other (w1.alloc _) _ _ _ (by omega)).trans ((Bh _ _ _ (by omega)).trans HR1.out)
  have hbC:Below b0 w W:=by rw[hW];exact below_setRow (HBB.out.alloc (by omega) _) (by omega) _
  have hcW:DecIs big bs b0 W cs:=HDC.out.mono (by omega) (fun g hg hg2=>by rw[hW];exact(setRow_other (w1.alloc _) _ _ _ (by omega)).trans (Bh _ _ _ hg2));rw[hp5];have hb05:b0<p5:=by omega
  have hWs:p5<W.heap.size:=(Ai r5).1;clear hW hp5 HR1 HBB HDC hs1 hb0A;have R5:=hid r5;have R0:=hid r0;have HBC:=hid hbC;have HCW:=hid hcW;clear r5 r0 hbC hcW;obtain⟨-, -,sa,pe,hcs,hsa,hpe⟩:=HCW.out;clear HCW;obtain⟨v,hv⟩:=Ex (yH big false bs);rw[hv]at hcs;unfold parN yq at hcs;injection hcs with hcs
  subst hcs;have hz:=HB_.out.1;have HSA:=hid (Qd hsa (qa8 hz));have HPE:=hid (Qd hpe (qbn hz));have HV:=hid hv;clear hsa hpe hv;have c5:W.cell? ⟨p5,1,none⟩=some (.int .i64 (v 2:Nat)):=qa R5.out 1;have c2:W.cell? ⟨b0,2,none⟩=some (.slice ka kz.length kc):=qa R0.out 2;have hb0s:b0<W.heap.size:=(Ai R0.out).1;have hky:((v 2:Nat):Int)=qm bs 1:=by rw[←HV.out];exact qcm hz HO.out.1
  obtain⟨q2,hq2⟩: ∃q,((kz.length:Int) != 0)=q:=⟨_,rfl⟩;obtain⟨q3,hq3⟩: ∃q,((kz.length:Int) != (v 2:Nat))=q:=⟨_,rfl⟩;have hkb:yZ bs kz=(q2&&q3):=by rw[←hq2,←hq3,hky];exact jF bs kz
  have HKB:=hid hkb;clear hz hky hkb;have hqq:(q2&&q3)=false:=by rw[←HKB.out];exact HKF.out
  clear HKB;have c3:W.cell? ⟨b0,3,none⟩=some (.bool la):=qa R0.out 3;have c4:W.cell? ⟨b0,4,none⟩=some (.int .i64 o):=qa R0.out 4;have c6:W.cell? ⟨b0,5,none⟩=some dv:=qa R0.out 5
  cases q2<;>cases q3<;>first|(exfalso;cases hqq;done)|skip
  all_goals
   clear hqq;go_wp2_with ((with_reducible show wpList _ _ _ (Oper.mk _ (Op.load 72 _) _ _ _ _::_) _ _);refine wpList_load_row rfl 72 _ rfl p5 rfl _ _ _ _ R5.out Tryz.underlying72 rfl (by kernel_rfl) ?_)
   have HZ:=HB_.out.1;refine(show Calls Tryz.prog 82 #[.int .i64 kk,parN v sa pe,.slice ka kz.length kc,.bool la,.int .i64 o,dv] W _ from HKK.out▸qc0 big v (yX big bs) (Yk big bs) kz ds la o sa pe (.slice ka kz.length kc) dv W (HV.out▸qeb HZ HO.out) HSA.out HPE.out (qeN big bs) (qe3 big bs) (HK_.out.below (hb0▸HBC.out)) (qbv HO.out HKF.out) (HV.out▸qf0 HZ HO.out.1 HKF.out) (HD_.out.below (hb0▸HBC.out)) HDL_.out HOO.out).mono ?_;intro e w9 hh;obtain⟨u,rfl,hc⟩:=qco (w0:=w) HZ HO.out (hb0▸HBC.out) (HV.out▸hh);have HC:=hid hc;clear hh hc HZ;go_wp2_with fail
   go_ret2
   exact HC.out
end Go.Proofs.YtdndeffmlhaipaaGreatDoor
