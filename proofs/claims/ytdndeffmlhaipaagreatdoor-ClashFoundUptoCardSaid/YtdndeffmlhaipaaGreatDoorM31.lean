/- What the leaves give, by the program. No condition. -/
import Derived.Test.YtdndeffmlhaipaaGreatDoorM29
import Derived.Test.YtdndeffmlhaipaaGreatDoorM04
import Derived.Test.YtdndeffmlhaipaaGreatDoorM05
import Derived.Test.YtdndeffmlhaipaaGreatDoorM30
import Derived.BigQuiet
import Derived.Deep.QuietTactic
import Derived.WalkMore
import Derived.Scope
import Derived.Sort.QuietIn
import Derived.BigRegionIn
import Derived.Deep.RegionHeld3
import Derived.Test.YtdndeffmlhaipaaGreatDoorM18
set_option linter.all false
set_option maxRecDepth 100000
set_option maxHeartbeats 8000000
namespace Go.Proofs.YtdndeffmlhaipaaGreatDoor
open Go.ChangeShapes Go.WideShapes Go.ChangeAt Go.RowKit Go.Joins Go.Shelf Go.Maps
open Go.Lib (hid)
attribute [local go_sem] Oper.semAt_some
theorem Jt {n:Nat}(zs:List Int)(hn:1≤n):1≤(yJ n zs).length∧(yJ n zs).length≤zs.length+1:=by
 unfold yJ;split
 ·exact⟨Nat.le_refl _,by simp⟩
 ·rename_i h;have h1:=List.length_pos_iff.2 h;rw[qO];have:=Yn (n:=zs.length) hn
  have:=ZT (d:=n) (show 1≤zs.length from h1)
  omega
theorem qbt {n:Nat}(zs:List Int)(i:Nat):(qJ (yJ n zs) i).length≤zs.length:=by
 unfold yJ;split
 ·cases i<;>simp[qJ]
 ·unfold qJ yZ;rw[Lg,List.getElem?_map]
  cases(List.range (qL zs.length n))[i]? with
  | none=>simp
  | some j=>exact(Z4 n zs j).length_le
theorem qdn (t:TreeV)(kz z1 z2 zs:List Int)(v:Value)(w:World)(h:TreeOk t kz z1 z2 w)(hv:Hold w v zs)(hn:zs.length≤4194304):
  Calls Tryz.prog 28 #[t.val,v] w fun e w'=> ∃u,e= .returned (.tuple #[u,.int .i64 0])∧ListO w.heap.size w' u (t.rowZ kz z1 z2 0 false (yJ t.ln zs) (yJ t.ln zs).length)∧Below w.heap.size w w':=by
 obtain⟨b0,hb0⟩:=Ex w.heap.size;have HT:=hid h;have HV:=hid hv;obtain⟨ib,hib,hzb,hsb,hbb⟩:=info_parts yo;have hvl:=QC t;simp only[h.v]at hvl;have HVL:=hid hvl;obtain⟨va,vc,rfl, -, -⟩:=hv.slice;have hbA:Below b0 w (w.alloc (.cells #[.int .i64 t.k,.int .i64 t.d,.int .i64 t.f,.int .i64 t.p,.int .u32 t.l,.int .i64 t.i,.slice t.ka t.kl t.kc,.slice t.sa t.sl t.sc,.slice t.pa t.pl t.pc] 26)):=by rw[←hb0];exact Br.alloc Nl _
 have hrA:=Wn w (.cells #[.int .i64 t.k,.int .i64 t.d,.int .i64 t.f,.int .i64 t.p,.int .u32 t.l,.int .i64 t.i,.slice t.ka t.kl t.kc,.slice t.sa t.sl t.sc,.slice t.pa t.pl t.pc] 26);rw[hb0]at hrA;have hln:1≤t.ln:=by
  have:=(qd h.v).2.2.2.2.2.2.2.2.1
  have:=h.l
  unfold TreeV.ln;omega
 have hcl:=Jt zs hln;have hcn:=fun i=>qbt (n:=t.ln) zs i
 have HCN:=hid hcn;have HCU:=hid (fun(W:World) (hb:Below b0 w W)=>qen t h.v h.l zs (.slice va zs.length vc) W (hv.below (hb0▸hb)) (by omega));generalize yJ t.ln zs=L at*;clear h hv hvl hln hcn;unfold TreeV.val;go_enter Tryz.func28,Tryz.ntmps28
 go_upto_region 1 with(fail)
 generalize w.alloc (.cells #[.int .i64 t.k,.int .i64 t.d,.int .i64 t.f,.int .i64 t.p,.int .u32 t.l,.int .i64 t.i,.slice t.ka t.kl t.kc,.slice t.sa t.sl t.sc,.slice t.pa t.pl t.pc] 26)=wA at*;go_wp2_with ((with_reducible show wpList _ _ _ (Oper.mk _ (Op.load 26 _) _ _ _ _::_) _ _);refine wpList_load_row rfl 26 _ rfl b0 rfl _ _ _ _ hrA Tryz.underlying26 rfl (by kernel_rfl) ?_)
 refine(HVL.out wA).mono ?_;rintro e w2 ⟨rfl,hb2⟩;have hr2:=qb hrA hb2;have hB2:Below b0 w w2:=hbA.trans (hb2.mono (by have:=(Ai hrA).1;omega));clear hrA hbA hb2;go_wp2_with ((with_reducible show wpList _ _ _ (Oper.mk _ (Op.load 26 _) _ _ _ _::_) _ _);refine wpList_load_row rfl 26 _ rfl b0 rfl _ _ _ _ hr2 Tryz.underlying26 rfl (by kernel_rfl) ?_)
 refine(HCU.out w2 hB2).mono ?_;rintro e w3 ⟨lv,rfl,hlo,hb3⟩;have hr3:=qb hr2 hb3;have hb02:=(Ai hr2).1;have hs3:=hb3.size;have HLO:=hid (hlo.le (show b0≤w2.heap.size by omega));have HB3:=hid (hB2.trans (hb3.mono (by omega)));have HR3:=hid hr3;obtain⟨la,lc,rfl,hlc1,hlc2, -⟩:=hlo.hold;clear hr2 hB2 hlo hb3 hr3 HVL HCU;obtain⟨bL,hbL⟩:=Ex w3.heap.size;go_wp2_with fail
 go_loopw [7,23] (fun s i wr=> ∃j:Nat,i= .int .i64 (j:Nat)∧j≤L.length∧ListO bL wr s (t.rowZ kz z1 z2 0 false L j)∧Below bL w3 wr) (fun _ i _=>L.length - (intOf i).toNat)
 case atStart=>exact⟨0,rfl,Nat.zero_le _,ListO.nil _ _,Below.refl _ _⟩
 case round=>
  obtain⟨j,rfl,hj,ho,hb⟩:=hrel;by_cases hlt:j<L.length
  case pos=>
   obtain⟨la',lc',e, -, -,h3⟩:=(HLO.out.below (hbL▸hb)).hold;obtain⟨g,off,rfl,h4,h5⟩:=h3.resolve_left (fun e=>by rw[e]at hlt;simp at hlt);simp only[Value.slice.injEq]at e;obtain⟨rfl, -, -⟩:=e;obtain⟨x,hx,hxh⟩:=h5 j hlt;obtain⟨xa,xc,rfl, -, -⟩:=hxh.slice;have hlt2:(j:Int)<L.length:=by omega
   have hLn:(L.length:Int)≤16777216:=by omega
   have hxl:=HCN.out j;have HXL:=hid hxl;obtain⟨ql,hql⟩: ∃q:Bool,decide (j+1=L.length)=q:=⟨_,rfl⟩;have hla:((j:Int)==(L.length:Int) - 1)=ql:=by
    rw[←hql,Bool.eq_iff_iff,beq_iff_eq,decide_eq_true_eq];omega
   have HQL:=hid hql;have hju:IntKind.u64.wrap (j:Int)=(j:Int):=u64_wrap_id _ (by omega) (by omega);obtain⟨vs,hvo,hvx⟩:=ho;have hvl:vs.length=j:=by have:=hvo.1;rw[TreeV.rowZ_length]at this;omega
   rw[TreeV.rowZ_length]at hvo hvx;have HVX:=hid hvx;obtain⟨a8,n8,k8,rfl⟩:=qs hvo;have HVO:=hid hvo;have HB:=hid hb;have HXH:=hid hxh;have hrr:wr.heap[b0]? =some (.cells #[.int .i64 t.k,.int .i64 t.d,.int .i64 t.f,.int .i64 t.p,.int .u32 t.l,.int .i64 t.i,.slice t.ka t.kl t.kc,.slice t.sa t.sl t.sc,.slice t.pa t.pl t.pc] 26 (0,0)):=qb HR3.out (hbL▸hb);have hTr:=HT.out.below (hb0▸(HB3.out.trans (hb.mono (by omega))));have HTR:=hid hTr;have hbLr:bL≤wr.heap.size:=by have:=hb.size;omega
   clear hvo hvx hxl hql h5 h3 hxh hb hTr;go_wp2_with ((with_reducible show wpList _ _ _ (Oper.mk _ (Op.load 26 _) _ _ _ _::_) _ _);refine wpList_load_row rfl 26 _ rfl b0 rfl _ _ _ _ hrr Tryz.underlying26 rfl (by kernel_rfl) ?_)
   refine(Y7 t HTR.out.v HTR.out.l z1 z2 kz 0 j (by omega) (by omega) ql false xa (qJ L j).length xc wr HTR.out.s HTR.out.p HTR.out.k).mono ?_;rintro e w4 ⟨bv,kv,rfl,hbo,hko,hb4⟩;have HX4:=hid (HXH.out.below hb4);have HBO:=hid hbo;have HKO:=hid hko;have HB4:=hid hb4;clear hbo hko hb4;go_wp2_with fail
   refine(qaF HTR.out (row:=0) (at_:=j) (by omega) (by omega) ql false (qJ L j) (.slice xa (qJ L j).length xc) bv kv w4 wr.heap.size HBO.out HKO.out HX4.out (by have:=HXL.out;omega)).mono ?_;rintro e w5 ⟨u,rfl,hO,hb5⟩;obtain⟨a6,k6,rfl, -, -⟩:=hO.hold.slice;have hs4:=HB4.out.size;have hs5:=hb5.size;have HK5:=hid ((KB.of_below HB4.out hbLr).trans (KB.of_below hb5 (by omega)));have HO5:=hid (hO.le (show bL≤w4.heap.size by omega));have HV5:=hid (show w5.ownsRow bL 24 1 (.slice a8 n8 k8) j vs from qf (qf HVO.out (fun g _ g2=>HB4.out.block g g2)) (fun g _ g2=>hb5.block g g2));have hNd:t.node kz z1 z2 0 j ql false (qJ L j)=t.node kz z1 z2 0 j (decide (j+1=L.length)) false (qJ L j):=by rw[HQL.out]
   have HND:=hid hNd;generalize t.node kz z1 z2 0 j ql false (qJ L j)=N at*;clear hb5 hO hNd HBO HKO HX4;go_wp2_with (first|((with_reducible show wpList _ _ _ (Oper.mk _ (Op.buildSlice _ _ _) _ _ _ _::_) _ _);refine qR rfl _ rfl _ _ _ rfl ?_)|(at_builtin;refine Q4 rfl _ _ _ rfl bL 24 (by decide) ib (.slice none 0 0) 1 24 Tryz.underlying60 hib hzb hsb hbb rfl (by decide) (.slice a8 n8 k8) j vs [.slice a6 N.length k6] _ rfl HV5.out rfl rfl (by simp[Value.oneCell']) (by unfold maxLen;omega) (by omega) (by omega) ?_;intro v' w' hown' hkb' hsp'))
   refine⟨⟨j+1,rfl,by omega,?_,HB.out.trans (HK5.out.trans hkb').below⟩,by simp[intOf];omega⟩;rw[yN,←HND.out];refine ListO.snoc (w:=w5) (vs:=vs) (x:= .slice a6 N.length k6) (fun i hi=>?_) (by rw[TreeV.rowZ_length];exact hvl) HO5.out (by rw[TreeV.rowZ_length];exact hown') hkb';rw[TreeV.rowZ_length]at hi;exact(HVX.out i hi).kb HK5.out
  obtain rfl:j=L.length:=by omega
  have HO:=hid (ho.le (show b0≤bL by omega));have HB:=hid (HB3.out.trans (hb.mono (show b0≤bL by omega)));clear ho hb;go_wp2
  go_ret2
  exact⟨_,rfl,by rw[hb0];exact HO.out,by rw[hb0];exact HB.out⟩
theorem qbu {n:Nat}(zs:List Int)(hn:1≤n):(yJ n zs).length=lvs zs.length n:=by
 unfold yJ lvs;split
 ·rename_i h;subst h;simp[qL]
 ·rename_i h;have h1:=List.length_pos_iff.2 h;rw[qO];have:=ZT (d:=n) (show 1≤zs.length from h1)
  omega
end Go.Proofs.YtdndeffmlhaipaaGreatDoor
