/- Row by row up to the root: plain. No condition. -/
import Derived.Test.YtdndeffmlhaipaaGreatDoorM31
import Derived.Test.YtdndeffmlhaipaaGreatDoorM30
import Derived.Test.YtdndeffmlhaipaaGreatDoorM05
import Derived.Test.YtdndeffmlhaipaaGreatDoorM29
set_option linter.all false
set_option maxRecDepth 100000
set_option maxHeartbeats 8000000
namespace Go.Proofs.YtdndeffmlhaipaaGreatDoor
open Go.ChangeShapes Go.WideShapes Go.ChangeAt Go.RowKit Go.Joins Go.Shelf Go.Maps
open Go.Lib (hid)
def TreeV.lvlZ (t:TreeV)(kz z1 z2:List Int)(L0:List (List Int)):Nat→List (List Int)
 | 0=>L0
 | r+1=>t.rowZ kz z1 z2 (r+1) (t.rootZ (r+1) (t.lvlZ kz z1 z2 L0 r).length) (t.upZ (r+1) (t.lvlZ kz z1 z2 L0 r)) (t.upZ (r+1) (t.lvlZ kz z1 z2 L0 r)).length
def TreeV.topAt (t:TreeV)(kz z1 z2:List Int)(L0:List (List Int))(R:Nat):Prop:=1≤R∧t.rootZ R (t.lvlZ kz z1 z2 L0 (R - 1)).length=true∧ ∀q,1≤q→q<R→t.rootZ q (t.lvlZ kz z1 z2 L0 (q - 1)).length=false
theorem yM {t:TreeV}{kz z1 z2:List Int}{L0:List (List Int)}{R S:Nat}(h:t.topAt kz z1 z2 L0 R)(k:t.topAt kz z1 z2 L0 S):R=S:=by
 rcases Nat.lt_trichotomy R S with h1|h1|h1
 ·have:=k.2.2 R h.1 h1;rw[h.2.1]at this;cases this
 ·exact h1
 ·have:=h.2.2 S k.1 h1;rw[k.2.1]at this;cases this
theorem YF {t:TreeV}{row n:Nat}(h:(row:Int)=t.p - 1):t.rootZ row n=true:=decide_eq_true (.inr (.inl h))
theorem YT {t:TreeV}(h:t.validE=0){row n:Nat}(hr:t.rootZ row n=false):2≤t.fn∧t.fn<n∧t.fn≤255:=by
 have h1:=(qd h).2.2.2.2.2.1;have h2: ¬(t.f=0∨(row:Int)=t.p - 1∨(n:Int)≤t.f):=of_decide_eq_false hr;unfold TreeV.fn;omega
theorem Yv {t:TreeV}(h:t.validE=0)(row:Nat){L:List (List Int)}(hL:L≠[]):1≤(t.upZ row L).length∧(t.upZ row L).length≤L.length:=by
 have hp:=List.length_pos_iff.2 hL;unfold TreeV.upZ
 cases hr:t.rootZ row L.length with
 | true=>exact⟨Nat.le_refl _,hp⟩
 | false=>
  have:=YT h hr
  rw[if_neg (by simp),qS];exact⟨ZT hp,Yn (by omega)⟩
theorem zC (t:TreeV)(row:Nat)(L:List (List Int))(i:Nat):(qJ (t.upZ row L) i).length≤L.flatten.length:=by
 unfold TreeV.upZ;split
 ·cases i<;>simp[qJ]
 ·unfold qJ YX;rw[Lg,List.getElem?_map]
  cases(List.range (qL L.length t.fn))[i]? with
  | none=>simp
  | some j=>exact Yk (Z4 t.fn L j)
theorem JE (t:TreeV)(kz z1 z2:List Int)(row i:Nat)(la rt:Bool)(d:List Int):(t.node kz z1 z2 row i la rt d).length≤64:=by
 have h1:(zW t.big (h0Z t.big (t.blk z1 z2 row i)) (yn (bB t.big) (zm row kz)++d) la).length=mB t.big:=yF _ _ _ _;have h2:mB t.big≤64:=by cases t.big<;>decide
 unfold TreeV.node zw;rw[List.length_take];omega
theorem YZ (t:TreeV)(kz z1 z2:List Int)(row:Nat)(rt:Bool)(L:List (List Int))(m:Nat): ∀z∈t.rowZ kz z1 z2 row rt L m,z.length≤64:=fun z hz=>by
 obtain⟨i, -,rfl⟩:=List.mem_map.1 hz;exact JE ..
theorem yx: ∀{L:List (List Int)},(∀z∈L,z.length≤64)→L.flatten.length≤64*L.length
 | [],_=>Nat.le_refl _
 | z::L,h=>by
  have h1:=h z (List.mem_cons_self ..);have h2:=yx (L:=L) (fun y hy=>h y (List.mem_cons_of_mem _ hy));simp only[List.flatten_cons,List.length_append,List.length_cons];omega
theorem Qc {t:TreeV}(h:t.validE=0)(kz z1 z2:List Int){L0:List (List Int)}(h0:L0≠[])(h1: ∀z∈L0,z.length≤64): ∀r,t.lvlZ kz z1 z2 L0 r≠[]∧(t.lvlZ kz z1 z2 L0 r).length≤L0.length∧ ∀z∈t.lvlZ kz z1 z2 L0 r,z.length≤64
 | 0=>⟨h0,Nat.le_refl _,h1⟩
 | r+1=>by
  obtain⟨i1,i2,i3⟩:=Qc h kz z1 z2 h0 h1 r;have hu:=Yv h (r+1) i1;have hl:(t.lvlZ kz z1 z2 L0 (r+1)).length=(t.upZ (r+1) (t.lvlZ kz z1 z2 L0 r)).length:=TreeV.rowZ_length ..;exact⟨List.length_pos_iff.1 (by omega),by omega,fun z hz=>YZ _ _ _ _ _ _ _ _ z hz⟩
theorem qep {n d:Nat}(h1:1≤n)(h2:n≤d):qL n d=1:=by
 have:=ZT (d:=d) h1
 have h3: ¬1<qL n d:=fun h=>by have:=(YN (n:=n) (d:=d) (j:=1) (by omega)).1 h;omega
 omega
theorem zB {t:TreeV}(hv:t.validE=0){row:Nat}(hr:1≤row){L:List (List Int)}(hL:L≠[]):
  (t.upZ row L).length=QG t.fn t.pn row L.length∧(t.rootZ row L.length=true↔QG t.fn t.pn row L.length=1):=by
 have hp:=List.length_pos_iff.2 hL;have hvf:=qd hv;have e1:(t.f=0)↔t.fn=0:=by unfold TreeV.fn;omega
 have e2:((row:Int)=t.p - 1)↔row=t.pn - 1:=by unfold TreeV.pn;omega
 unfold TreeV.upZ QG;by_cases hc:t.fn=0∨row=t.pn - 1
 ·have hrt:t.rootZ row L.length=true:=decide_eq_true (by rcases hc with h|h;exact .inl (e1.2 h);exact .inr (.inl (e2.2 h)));rw[if_pos hrt,if_pos hc];exact⟨rfl,by simp[hrt]⟩
 ·rw[if_neg hc]
  cases hrt:t.rootZ row L.length with
  | true=>
   have h3:t.f=0∨(row:Int)=t.p - 1∨(L.length:Int)≤t.f:=of_decide_eq_true hrt;have h4:L.length≤t.fn:=by unfold TreeV.fn;omega
   rw[qep hp h4];exact⟨rfl,by simp⟩
  | false=>
   have h3:=YT hv hrt;rw[if_neg (by simp),qS];refine⟨rfl,by simp,fun h=>?_⟩;have:=qe0 (k:=1) (d:=t.fn) (m:=L.length) (by omega) (by omega)
   omega
theorem Qh {t:TreeV}{total:Nat}(he:t.err total=0)(kz z1 z2:List Int){L0:List (List Int)}(h0:L0.length=lvs total t.ln)(h1: ∀z∈L0,z.length≤64): ∀r,r<(t.rowsOf total).length→(t.lvlZ kz z1 z2 L0 r).length=nth (t.rowsOf total) r
 | 0,_=>by rw[(qM he).first];exact h0
 | r+1,hr=>by
  have hv:=Qz he;have hL0:L0≠[]:=List.length_pos_iff.1 (by rw[h0];unfold lvs;omega);have ih:=Qh he kz z1 z2 h0 h1 r (by omega);have hf:=Qc hv kz z1 z2 hL0 h1 r;have hu:=zB hv (row:=r+1) (by omega) hf.1;have hl:(t.lvlZ kz z1 z2 L0 (r+1)).length=(t.upZ (r+1) (t.lvlZ kz z1 z2 L0 r)).length:=TreeV.rowZ_length ..;rw[hl,hu.1,(qM he).next r hr,ih]
theorem yY {t:TreeV}{total:Nat}(he:t.err total=0)(kz z1 z2:List Int){L0:List (List Int)}(h0:L0.length=lvs total t.ln)(h1: ∀z∈L0,z.length≤64):t.topAt kz z1 z2 L0 ((t.rowsOf total).length - 1):=by
 have hv:=Qz he;have hL0:L0≠[]:=List.length_pos_iff.1 (by rw[h0];unfold lvs;omega);have hR:=qM he;have hlen:=hR.len;have key: ∀q,1≤q→q<(t.rowsOf total).length→(t.rootZ q (t.lvlZ kz z1 z2 L0 (q - 1)).length=true↔nth (t.rowsOf total) q=1):=fun q h2 h3=>by
  have hf:=Qc hv kz z1 z2 hL0 h1 (q - 1);have hu:=(zB hv h2 hf.1).2;have hb:=Qh he kz z1 z2 h0 h1 (q - 1) (by omega);have hn:=hR.next (q - 1) (by omega);rw[Nat.sub_add_cancel h2]at hn;rw[hu,hb,hn]
 refine⟨by omega,(key _ (by omega) (by omega)).2 hR.last,fun q h2 h3=>?_⟩;have:=(key q h2 (by omega))
 cases hrt:t.rootZ q (t.lvlZ kz z1 z2 L0 (q - 1)).length with
 | false=>rfl
 | true=>exact absurd (this.1 hrt) (hR.more q h2 (by omega))
end Go.Proofs.YtdndeffmlhaipaaGreatDoor
namespace Go.Proofs.YtdndeffmlhaipaaGreatDoor
open Go.ChangeShapes Go.WideShapes Go.ChangeAt Go.RowKit Go.Joins Go.Shelf Go.Maps
open Go.Lib (hid)
attribute [local go_sem] Oper.semAt_some
theorem ListO.get {B:Nat}{w:World}{v:Value}{L:List (List Int)}(h:ListO B w v L){i:Nat}(hi:i<L.length): ∃g cap x,v= .slice (some ⟨g,0,none⟩) L.length cap∧g<w.heap.size∧w.cell? ⟨g,i,none⟩=some x∧OwnB B w x (qJ L i):=by
 obtain⟨vs,ho,hx⟩:=h;have hl:vs.length=L.length:=by have:=ho.1;simpa using this
 rcases ho.2 with⟨rfl,h0⟩|⟨g,cap,cur,rfl,h1,h2,h3,h4,h5,h6⟩
 ·omega
 ·refine⟨g,cap,vs.getD i undef,rfl,(Ai h2).1,?_,hx i hi⟩;rw[qa h2 i];have e:cur.toList[i]? =vs[i]? :=by rw[←h6,List.getElem?_take,if_pos (by omega)]
  rw[←Array.getElem?_toList,e,Lg,List.getElem?_eq_getElem (by omega)];rfl
theorem qeZ (t:TreeV)(kz z1 z2:List Int)(L0:List (List Int))(v:Value)(w:World)(h:TreeOk t kz z1 z2 w)(hv:ListH w v L0)(h0:L0≠[])(h1: ∀z∈L0,z.length≤64)(hn:L0.length≤8388608):
  Calls Tryz.prog 29 #[t.val,v] w fun e w'=> ∃u,e= .returned u∧(∃R,t.topAt kz z1 z2 L0 R∧OwnB w.heap.size w' u (qJ (t.lvlZ kz z1 z2 L0 R) 0))∧Below w.heap.size w w':=by
 obtain⟨b0,hb0⟩:=Ex w.heap.size;have HT:=hid h;have HV:=hid hv;obtain⟨ib,hib,hzb,hsb,hbb⟩:=info_parts yo;have HF:=hid (Qc h.v kz z1 z2 h0 h1);have hp:2≤t.p∧t.p≤255:=⟨(qd h.v).2.2.2.2.2.2.1,(qd h.v).2.2.2.2.2.2.2.1⟩;have hbA:Below b0 w (w.alloc (.cells #[.int .i64 t.k,.int .i64 t.d,.int .i64 t.f,.int .i64 t.p,.int .u32 t.l,.int .i64 t.i,.slice t.ka t.kl t.kc,.slice t.sa t.sl t.sc,.slice t.pa t.pl t.pc] 26)):=by rw[←hb0];exact Br.alloc Nl _
 have hrA:=Wn w (.cells #[.int .i64 t.k,.int .i64 t.d,.int .i64 t.f,.int .i64 t.p,.int .u32 t.l,.int .i64 t.i,.slice t.ka t.kl t.kc,.slice t.sa t.sl t.sc,.slice t.pa t.pl t.pc] 26);rw[hb0]at hrA;have h00:0<L0.length:=List.length_pos_iff.2 h0;clear h hv h0 h1;unfold TreeV.val;go_enter Tryz.func29,Tryz.ntmps29
 go_upto_region 1 with(fail)
 generalize w.alloc (.cells #[.int .i64 t.k,.int .i64 t.d,.int .i64 t.f,.int .i64 t.p,.int .u32 t.l,.int .i64 t.i,.slice t.ka t.kl t.kc,.slice t.sa t.sl t.sc,.slice t.pa t.pl t.pc] 26)=wA at*;have HRA:=hid hrA;have HBA:=hid hbA;clear hrA hbA;go_wp2_with fail
 go_loopw [1,5] (fun x i wr=> ∃r q:Nat,i= .int .i64 (q:Nat)∧q=r+1∧(q:Int)≤t.p - 1∧ListH wr x (t.lvlZ kz z1 z2 L0 r)∧(∀q',1≤q'→q'≤r→t.rootZ q' (t.lvlZ kz z1 z2 L0 (q' - 1)).length=false)∧Below b0 w wr∧wr.heap[b0]? =some (.cells #[.int .i64 t.k,.int .i64 t.d,.int .i64 t.f,.int .i64 t.p,.int .u32 t.l,.int .i64 t.i,.slice t.ka t.kl t.kc,.slice t.sa t.sl t.sc,.slice t.pa t.pl t.pc] 26 (0,0))) (fun _ i _=>256 - (intOf i).toNat)
 case atStart=>exact⟨0,1,rfl,rfl,by omega,HV.out.below (hb0▸HBA.out),fun q' h1 h2=>by omega,HBA.out,HRA.out⟩
 case round=>
  obtain⟨r,q,rfl,hq,hqp,hx,hno,hb,hrr⟩:=hrel;obtain⟨f1,f2,f3⟩:=HF.out r;obtain⟨xa,xc,rfl,hxc1,hxc2, -⟩:=id hx;have HNO:=hid hno;have HB:=hid hb;have HRR:=hid hrr;have hf4:=yx f3;have HAB:=hid (qbJ t HT.out.v q (by omega) (t.lvlZ kz z1 z2 L0 r) _ wr hx (by omega) (by omega) f1);have hup:=Yv HT.out.v q f1;have HIT:=hid (fun i=>zC t q (t.lvlZ kz z1 z2 L0 r) i);have HLV:=hid (show t.lvlZ kz z1 z2 L0 q=t.rowZ kz z1 z2 q (t.rootZ q (t.lvlZ kz z1 z2 L0 r).length) (t.upZ q (t.lvlZ kz z1 z2 L0 r)) (t.upZ q (t.lvlZ kz z1 z2 L0 r)).length by rw[hq];rfl);have HRT0:=hid (show ∀b,t.rootZ q (t.lvlZ kz z1 z2 L0 r).length=b→t.rootZ q (t.lvlZ kz z1 z2 L0 (q - 1)).length=b by rw[hq];exact fun b h=>h);have HRL:=hid (show((q:Int)=t.p - 1→t.rootZ q (t.lvlZ kz z1 z2 L0 r).length=true) from YF);obtain⟨F,hF⟩:=Ex ((t.lvlZ kz z1 z2 L0 r).flatten.length);rw[hF]at hf4 HIT;have hUL:(t.upZ q (t.lvlZ kz z1 z2 L0 r)).length≤L0.length:=Nat.le_trans hup.2 f2;obtain⟨UU,hUU⟩:=Ex (t.upZ q (t.lvlZ kz z1 z2 L0 r));obtain⟨rt,hrt⟩:=Ex (t.rootZ q (t.lvlZ kz z1 z2 L0 r).length);obtain⟨N,hN⟩:=Ex ((t.lvlZ kz z1 z2 L0 r).length);have hFb:F≤536870912:=by omega
  have hU1:=hup.1;rw[hrt,hUU]at HAB HLV;rw[hrt]at HRT0 HRL;rw[hUU]at HIT hUL hU1;have HU1:=hid hU1;rw[hN]at hxc1 HAB⊢;have HQ:=hid hq;clear hx hno hb hup f1 f2 f3 hf4 hF hq;go_wp2_with ((with_reducible show wpList _ _ _ (Oper.mk _ (Op.load 26 _) _ _ _ _::_) _ _);refine wpList_load_row rfl 26 _ rfl b0 rfl _ _ _ _ hrr Tryz.underlying26 rfl (by kernel_rfl) ?_)
  refine HAB.out.mono ?_;rintro e w2 ⟨u,rfl,hlo,hb2⟩;obtain⟨ua,uc,rfl,huc1,huc2, -⟩:=hlo.hold;have hbr:b0<wr.heap.size:=(Ai hrr).1;have hs2:=hb2.size;have HLO:=hid (hlo.le (show b0≤wr.heap.size by omega));have HB2:=hid (HB.out.trans (hb2.mono (by omega)));have HR2:=hid (qb HRR.out hb2);obtain⟨bD,hbD⟩:=Ex w2.heap.size;clear hlo hb2 hrr HAB;go_wp2_with fail
  go_loopw [1,23] (fun s i wr=> ∃j:Nat,i= .int .i64 (j:Nat)∧j≤UU.length∧ListO bD wr s (t.rowZ kz z1 z2 q rt UU j)∧Below bD w2 wr) (fun _ i _=>UU.length - (intOf i).toNat)
  case atStart=>exact⟨0,rfl,Nat.zero_le _,ListO.nil _ _,Below.refl _ _⟩
  case round=>
   obtain⟨j,rfl,hj,ho,hb⟩:=hrel;by_cases hlt:j<UU.length
   case pos=>
    obtain⟨la',lc',e, -, -,h3⟩:=(HLO.out.below (hbD▸hb)).hold;obtain⟨g,off,rfl,h4,h5⟩:=h3.resolve_left (fun e=>by rw[e]at hlt;simp at hlt);simp only[Value.slice.injEq]at e;obtain⟨rfl, -,rfl⟩:=e;obtain⟨x,hx,hxh⟩:=h5 j hlt;obtain⟨xb,xd,rfl, -, -⟩:=hxh.slice;have hlt2:(j:Int)<UU.length:=by omega
    have hLn:(UU.length:Int)≤16777216:=by omega
    have hxl:=HIT.out j;have HXL:=hid hxl;obtain⟨ql,hql⟩: ∃q:Bool,decide (j+1=UU.length)=q:=⟨_,rfl⟩;have hla:((j:Int)==(UU.length:Int) - 1)=ql:=by
     rw[←hql,Bool.eq_iff_iff,beq_iff_eq,decide_eq_true_eq];omega
    have HQL:=hid hql;have hju:IntKind.u64.wrap (j:Int)=(j:Int):=u64_wrap_id _ (by omega) (by omega);obtain⟨vs,hvo,hvx⟩:=ho;have hvl:vs.length=j:=by have:=hvo.1;rw[TreeV.rowZ_length]at this;omega
    rw[TreeV.rowZ_length]at hvo hvx;have HVX:=hid hvx;obtain⟨a8,n8,k8,rfl⟩:=qs hvo;have HVO:=hid hvo;have HBV:=hid hb;have HXH:=hid hxh;have hrv:=qb HR2.out (hbD▸hb);have hTr:=HT.out.below (hb0▸(HB2.out.trans (hb.mono (by omega))));have HTR:=hid hTr;have hbLr:bD≤wr.heap.size:=by have:=hb.size;omega
    clear hvo hvx hxl hql h5 h3 hxh hb hTr;go_wp2_with ((with_reducible show wpList _ _ _ (Oper.mk _ (Op.load 26 _) _ _ _ _::_) _ _);refine wpList_load_row rfl 26 _ rfl b0 rfl _ _ _ _ hrv Tryz.underlying26 rfl (by kernel_rfl) ?_)
    refine(Y7 t HTR.out.v HTR.out.l z1 z2 kz q j (by omega) (by omega) ql rt xb (qJ UU j).length xd wr HTR.out.s HTR.out.p HTR.out.k).mono ?_;rintro e w4 ⟨bv,kv,rfl,hbo,hko,hb4⟩;have HX4:=hid (HXH.out.below hb4);have HBO:=hid hbo;have HKO:=hid hko;have HB4:=hid hb4;clear hbo hko hb4;go_wp2_with fail
    refine(qaF HTR.out (row:=q) (at_:=j) (by omega) (by omega) ql rt (qJ UU j) (.slice xb (qJ UU j).length xd) bv kv w4 wr.heap.size HBO.out HKO.out HX4.out (by have:=HXL.out;omega)).mono ?_;rintro e w5 ⟨u,rfl,hO,hb5⟩;obtain⟨a6,k6,rfl, -, -⟩:=hO.hold.slice;have hs4:=HB4.out.size;have hs5:=hb5.size;have HK5:=hid ((KB.of_below HB4.out hbLr).trans (KB.of_below hb5 (by omega)));have HO5:=hid (hO.le (show bD≤w4.heap.size by omega));have HV5:=hid (show w5.ownsRow bD 24 1 (.slice a8 n8 k8) j vs from qf (qf HVO.out (fun g _ g2=>HB4.out.block g g2)) (fun g _ g2=>hb5.block g g2));have hNd:t.node kz z1 z2 q j ql rt (qJ UU j)=t.node kz z1 z2 q j (decide (j+1=UU.length)) rt (qJ UU j):=by rw[HQL.out]
    have HND:=hid hNd;generalize t.node kz z1 z2 q j ql rt (qJ UU j)=ND at*;clear hb5 hO hNd HBO HKO HX4;go_wp2_with (first|((with_reducible show wpList _ _ _ (Oper.mk _ (Op.buildSlice _ _ _) _ _ _ _::_) _ _);refine qR rfl _ rfl _ _ _ rfl ?_)|(at_builtin;refine Q4 rfl _ _ _ rfl bD 24 (by decide) ib (.slice none 0 0) 1 24 Tryz.underlying60 hib hzb hsb hbb rfl (by decide) (.slice a8 n8 k8) j vs [.slice a6 ND.length k6] _ rfl HV5.out rfl rfl (by simp[Value.oneCell']) (by unfold maxLen;omega) (by omega) (by omega) ?_;intro v' w' hown' hkb' hsp'))
    refine⟨⟨j+1,rfl,by omega,?_,HBV.out.trans (HK5.out.trans hkb').below⟩,by simp[intOf];omega⟩;rw[yN,←HND.out];refine ListO.snoc (w:=w5) (vs:=vs) (x:= .slice a6 ND.length k6) (fun i hi=>?_) (by rw[TreeV.rowZ_length];exact hvl) HO5.out (by rw[TreeV.rowZ_length];exact hown') hkb';rw[TreeV.rowZ_length]at hi;exact(HVX.out i hi).kb HK5.out
   obtain rfl:j=UU.length:=by omega
   rw[←HLV.out]at ho;have HB3:=hid (HB2.out.trans (hb.mono (show b0≤bD by omega)));have HR3:=hid (qb HR2.out (hbD▸hb));have hlq:(t.lvlZ kz z1 z2 L0 q).length=UU.length:=by rw[HLV.out];exact TreeV.rowZ_length ..
   clear hb
   cases rt
   case true=>
    obtain⟨g,cg,x,rfl,hg,hx,hox⟩:=ho.get (i:=0) (by rw[hlq];exact HU1.out);obtain⟨xb,xd,rfl, -, -⟩:=hox.hold.slice;have HOX:=hid (hox.le (show b0≤bD by omega));rw[hlq];have hU2:0<(UU.length:Int):=by have:=HU1.out;omega
    clear ho hox;go_wp2
    go_ret
    try rw[hb0]
    exact⟨_,rfl,⟨q,⟨by have:=HQ.out;omega,HRT0.out true rfl,fun q' h1 h2=>HNO.out q' h1 (by have:=HQ.out;omega)⟩,HOX.out⟩,HB3.out⟩
   have hqn: ¬((q:Int)=t.p - 1):=fun e=>by have:=HRL.out e;cases this
   have HO:=hid ho.hold;clear ho;go_wp2
   refine⟨⟨q,q+1,rfl,rfl,by omega,HO.out,fun q' h1 h2=>?_,HB3.out,HR3.out⟩,by simp[intOf];omega⟩;by_cases h3:q'=q
   ·rw[h3];exact HRT0.out false rfl
   ·exact HNO.out q' h1 (by have:=HQ.out;omega)
def TreeV.leafZ (t:TreeV)(kz z1 z2 zs:List Int):List (List Int):=t.rowZ kz z1 z2 0 false (yJ t.ln zs) (yJ t.ln zs).length
theorem qz {t:TreeV}(h:t.validE=0)(hl:0≤t.l∧t.l≤4294967295)(kz z1 z2 zs:List Int):t.leafZ kz z1 z2 zs≠[]∧(t.leafZ kz z1 z2 zs).length≤zs.length+1∧ ∀z∈t.leafZ kz z1 z2 zs,z.length≤64:=by
 have hln:1≤t.ln:=by
  have:=(qd h).2.2.2.2.2.2.2.2.1
  unfold TreeV.ln;omega
 have h1:=Jt zs hln;have h2:(t.leafZ kz z1 z2 zs).length=(yJ t.ln zs).length:=TreeV.rowZ_length ..;exact⟨List.length_pos_iff.1 (by omega),by omega,fun z hz=>YZ _ _ _ _ _ _ _ _ z hz⟩
theorem qcf (t:TreeV)(v:Value)(w:World)(h:t.validE≠0):
  Calls Tryz.prog 28 #[t.val,v] w fun e w'=>e= .returned (.tuple #[.slice none 0 0,.int .i64 t.validE])∧Below w.heap.size w w':=by
 obtain⟨b0,hb0⟩:=Ex w.heap.size;have HVL:=hid (QC t);have hbA:Below b0 w (w.alloc (.cells #[.int .i64 t.k,.int .i64 t.d,.int .i64 t.f,.int .i64 t.p,.int .u32 t.l,.int .i64 t.i,.slice t.ka t.kl t.kc,.slice t.sa t.sl t.sc,.slice t.pa t.pl t.pc] 26)):=by rw[←hb0];exact Br.alloc Nl _
 have hrA:=Wn w (.cells #[.int .i64 t.k,.int .i64 t.d,.int .i64 t.f,.int .i64 t.p,.int .u32 t.l,.int .i64 t.i,.slice t.ka t.kl t.kc,.slice t.sa t.sl t.sc,.slice t.pa t.pl t.pc] 26);rw[hb0]at hrA;generalize t.validE=ev at*;have hq:(ev != 0)=true:=by rw[bne_iff_ne];exact h
 clear h;unfold TreeV.val;go_enter Tryz.func28,Tryz.ntmps28
 go_upto_region 1 with(fail)
 generalize w.alloc (.cells #[.int .i64 t.k,.int .i64 t.d,.int .i64 t.f,.int .i64 t.p,.int .u32 t.l,.int .i64 t.i,.slice t.ka t.kl t.kc,.slice t.sa t.sl t.sc,.slice t.pa t.pl t.pc] 26)=wA at*;go_wp2_with ((with_reducible show wpList _ _ _ (Oper.mk _ (Op.load 26 _) _ _ _ _::_) _ _);refine wpList_load_row rfl 26 _ rfl b0 rfl _ _ _ _ hrA Tryz.underlying26 rfl (by kernel_rfl) ?_)
 refine(HVL.out wA).mono ?_;rintro e w2 ⟨rfl,hb2⟩;have HB2:=hid (hbA.trans (hb2.mono (by have:=(Ai hrA).1;omega)));clear hrA hbA hb2;go_wp2
 go_ret2
 exact⟨rfl,by rw[hb0];exact HB2.out⟩
theorem qeh (t:TreeV)(v:Value)(w:World)(h:t.validE≠0):
  Calls Tryz.prog 13 #[t.val,v] w fun e w'=>e= .returned (.tuple #[.slice none 0 0,.int .i64 t.validE])∧Below w.heap.size w w':=by
 obtain⟨b0,hb0⟩:=Ex w.heap.size;have HLV:=hid (fun W:World=>qcf t v W h);have hbA:Below b0 w (w.alloc (.cells #[.int .i64 t.k,.int .i64 t.d,.int .i64 t.f,.int .i64 t.p,.int .u32 t.l,.int .i64 t.i,.slice t.ka t.kl t.kc,.slice t.sa t.sl t.sc,.slice t.pa t.pl t.pc] 26)):=by rw[←hb0];exact Br.alloc Nl _
 have hrA:=Wn w (.cells #[.int .i64 t.k,.int .i64 t.d,.int .i64 t.f,.int .i64 t.p,.int .u32 t.l,.int .i64 t.i,.slice t.ka t.kl t.kc,.slice t.sa t.sl t.sc,.slice t.pa t.pl t.pc] 26);rw[hb0]at hrA;generalize t.validE=ev at*;have hq:(ev != 0)=true:=by rw[bne_iff_ne];exact h
 clear h;unfold TreeV.val;go_enter Tryz.func13,Tryz.ntmps13
 go_upto_region 1 with(fail)
 generalize w.alloc (.cells #[.int .i64 t.k,.int .i64 t.d,.int .i64 t.f,.int .i64 t.p,.int .u32 t.l,.int .i64 t.i,.slice t.ka t.kl t.kc,.slice t.sa t.sl t.sc,.slice t.pa t.pl t.pc] 26)=wA at*;go_wp2_with ((with_reducible show wpList _ _ _ (Oper.mk _ (Op.load 26 _) _ _ _ _::_) _ _);refine wpList_load_row rfl 26 _ rfl b0 rfl _ _ _ _ hrA Tryz.underlying26 rfl (by kernel_rfl) ?_)
 refine(HLV.out wA).mono ?_;rintro e w2 ⟨rfl,hb2⟩;have HB2:=hid (hbA.trans (hb2.mono (by have:=(Ai hrA).1;omega)));clear hrA hbA hb2;go_wp2
 go_ret2
 exact⟨rfl,by rw[hb0];exact HB2.out⟩
theorem qeY (t:TreeV)(kz z1 z2 zs:List Int)(v:Value)(w:World)(h:TreeOk t kz z1 z2 w)(hv:Hold w v zs)(hn:zs.length≤4194304):
  Calls Tryz.prog 13 #[t.val,v] w fun e w'=> ∃u,e= .returned (.tuple #[u,.int .i64 0])∧(∃R,t.topAt kz z1 z2 (t.leafZ kz z1 z2 zs) R∧OwnB w.heap.size w' u (qJ (t.lvlZ kz z1 z2 (t.leafZ kz z1 z2 zs) R) 0))∧Below w.heap.size w w':=by
 obtain⟨b0,hb0⟩:=Ex w.heap.size;have hL:=qz h.v h.l kz z1 z2 zs;have HL:=hid hL;have HT:=hid h;have HLV:=hid (fun(W:World) (hb:Below b0 w W)=>qdn t kz z1 z2 zs v W (h.below (hb0▸hb)) (hv.below (hb0▸hb)) hn);have hbA:Below b0 w (w.alloc (.cells #[.int .i64 t.k,.int .i64 t.d,.int .i64 t.f,.int .i64 t.p,.int .u32 t.l,.int .i64 t.i,.slice t.ka t.kl t.kc,.slice t.sa t.sl t.sc,.slice t.pa t.pl t.pc] 26)):=by rw[←hb0];exact Br.alloc Nl _
 have hrA:=Wn w (.cells #[.int .i64 t.k,.int .i64 t.d,.int .i64 t.f,.int .i64 t.p,.int .u32 t.l,.int .i64 t.i,.slice t.ka t.kl t.kc,.slice t.sa t.sl t.sc,.slice t.pa t.pl t.pc] 26);rw[hb0]at hrA;obtain⟨va,vc,rfl, -, -⟩:=hv.slice;clear h hv hL;unfold TreeV.val;unfold TreeV.leafZ at HL⊢;generalize t.rowZ kz z1 z2 0 false (yJ t.ln zs) (yJ t.ln zs).length=L0 at*;go_enter Tryz.func13,Tryz.ntmps13
 go_upto_region 1 with(fail)
 generalize w.alloc (.cells #[.int .i64 t.k,.int .i64 t.d,.int .i64 t.f,.int .i64 t.p,.int .u32 t.l,.int .i64 t.i,.slice t.ka t.kl t.kc,.slice t.sa t.sl t.sc,.slice t.pa t.pl t.pc] 26)=wA at*;go_wp2_with ((with_reducible show wpList _ _ _ (Oper.mk _ (Op.load 26 _) _ _ _ _::_) _ _);refine wpList_load_row rfl 26 _ rfl b0 rfl _ _ _ _ hrA Tryz.underlying26 rfl (by kernel_rfl) ?_)
 refine(HLV.out wA hbA).mono ?_;rintro e w2 ⟨lv,rfl,hlo,hb2⟩;have hr2:=qb hrA hb2;have hsA:=(Ai hrA).1;have hB2:Below b0 w w2:=hbA.trans (hb2.mono (by omega));have HF:=hid (qeZ t kz z1 z2 L0 lv w2 (HT.out.below (hb0▸hB2)) hlo.hold HL.out.1 HL.out.2.2 (by have:=HL.out.2.1;omega));obtain⟨la,lc,rfl, -, -, -⟩:=hlo.hold;have HB2:=hid hB2;have hs2:=hb2.size;clear hrA hbA hb2 hB2 hlo HLV;go_wp2_with ((with_reducible show wpList _ _ _ (Oper.mk _ (Op.load 26 _) _ _ _ _::_) _ _);refine wpList_load_row rfl 26 _ rfl b0 rfl _ _ _ _ hr2 Tryz.underlying26 rfl (by kernel_rfl) ?_)
 refine HF.out.mono ?_;rintro e w3 ⟨u,rfl,⟨R,hR,hO⟩,hb3⟩;have HR:=hid hR;have HO:=hid (hO.le (show b0≤w2.heap.size by omega));have HB3:=hid (HB2.out.trans (hb3.mono (by omega)));clear hR hO hb3 hr2;go_wp2
 go_ret2
 try rw[hb0]
 exact⟨_,rfl,⟨R,HR.out,HO.out⟩,HB3.out⟩
def TreeV.digZ (t:TreeV)(kz z1 z2 zs:List Int):List Int:=if t.validE=0 then qJ (t.lvlZ kz z1 z2 (t.leafZ kz z1 z2 zs) ((t.rowsOf zs.length).length - 1)) 0 else []
theorem qK {t:TreeV}{total:Nat}(h:t.validE=0)(hn:total≤4194304):t.err total=0:=by
 unfold TreeV.err;rw[if_neg (by simp[h]),if_neg ?_];rintro⟨-,h2⟩
 have hl:1≤t.ln∨t.ln=0:=by omega
 rcases hl with hl|hl
 ·have:=Yn (n:=total) hl;omega
 ·rw[hl]at h2;unfold qL at h2;split at h2<;>simp at h2
theorem Qr {t:TreeV}(h:t.validE=0)(hl:0≤t.l∧t.l≤4294967295)(kz z1 z2 zs:List Int):(t.leafZ kz z1 z2 zs).length=lvs zs.length t.ln:=by
 have hln:1≤t.ln:=by
  have:=(qd h).2.2.2.2.2.2.2.2.1
  unfold TreeV.ln;omega
 rw[←qbu zs hln];exact TreeV.rowZ_length ..
def qfb (t:TreeV)(kz z1 z2 zs:List Int)(w:World)(e:Ending)(w':World):Prop:=
 ∃u,e= .returned (.tuple #[u,.int .i64 t.validE])∧OwnB w.heap.size w' u (t.digZ kz z1 z2 zs)∧Below w.heap.size w w'
theorem YC (t:TreeV)(kz z1 z2 zs:List Int)(v:Value)(w:World)(hl:0≤t.l∧t.l≤4294967295)(hk:Hold w (.slice t.ka t.kl t.kc) kz)(hs:Hold w (.slice t.sa t.sl t.sc) z1)(hp:Hold w (.slice t.pa t.pl t.pc) z2)(hv:Hold w v zs)(hn:zs.length≤4194304):
  Calls Tryz.prog 13 #[t.val,v] w fun e w'=>qfb t kz z1 z2 zs w e w':=by
 by_cases h:t.validE=0
 ·refine(qeY t kz z1 z2 zs v w ⟨h,hl,hk,hs,hp⟩ hv hn).mono ?_;rintro e w' ⟨u,rfl,⟨R,hR,ho⟩,hb⟩
  have hL:=qz h hl kz z1 z2 zs;have hT:=yY (qK h hn) kz z1 z2 (Qr h hl kz z1 z2 zs) hL.2.2;rw[yM hR hT]at ho;exact⟨u,by rw[h],by unfold TreeV.digZ;rw[if_pos h];exact ho,hb⟩
 ·refine(qeh t v w h).mono ?_;rintro e w' ⟨rfl,hb⟩
  exact⟨_,rfl,by unfold TreeV.digZ;rw[if_neg h];exact⟨fun _ h=>by simp at h,.inl ⟨rfl,rfl⟩⟩,hb⟩
def TreeV.sw (t:TreeV)(a1:Option Addr)(c1:Nat)(a2:Option Addr)(c2:Nat)(a3:Option Addr)(c3:Nat):TreeV:=⟨t.k,t.d,t.f,t.p,t.l,t.i,a1,t.kl,c1,a2,t.sl,c2,a3,t.pl,c3⟩
theorem Yw (t:TreeV)(a1:Option Addr)(c1:Nat)(a2:Option Addr)(c2:Nat)(a3:Option Addr)(c3:Nat)(kz z1 z2:List Int)(L0:List (List Int)): ∀r,(t.sw a1 c1 a2 c2 a3 c3).lvlZ kz z1 z2 L0 r=t.lvlZ kz z1 z2 L0 r
 | 0=>rfl
 | r+1=>by
  show TreeV.rowZ _ _ _ _ _ (TreeV.rootZ _ _ (TreeV.lvlZ _ _ _ _ _ r).length) (TreeV.upZ _ _ (TreeV.lvlZ _ _ _ _ _ r)) (TreeV.upZ _ _ (TreeV.lvlZ _ _ _ _ _ r)).length=_
  rw[Yw t a1 c1 a2 c2 a3 c3 kz z1 z2 L0 r];rfl
theorem yA (t:TreeV)(a1:Option Addr)(c1:Nat)(a2:Option Addr)(c2:Nat)(a3:Option Addr)(c3:Nat)(kz z1 z2 zs:List Int):(t.sw a1 c1 a2 c2 a3 c3).digZ kz z1 z2 zs=t.digZ kz z1 z2 zs:=by
 unfold TreeV.digZ;rw[Yw];rfl
def ZW (t:TreeV)(kz z1 z2:List Int)(B:Nat)(w:World)(v:Value):Prop:=
 ∃a1 c1 a2 c2 a3 c3,v=(t.sw a1 c1 a2 c2 a3 c3).val∧OwnB B w (.slice a1 t.kl c1) kz∧OwnB B w (.slice a2 t.sl c2) z1∧OwnB B w (.slice a3 t.pl c3) z2
theorem qdD {big:Bool}{bs kz ds:List Int}{la:Bool}{o:Int}(h:1≤o∧o≤(mB big:Nat)):((zw big bs kz la o ds).length:Int)=o:=by
 unfold zw;rw[List.length_take,yF];omega
theorem JU {t:TreeV}(h:t.validE=0)(rt:Bool):1≤t.outN rt∧t.outN rt≤(mB t.big:Nat):=by
 have hmb:=QT h;obtain⟨-,d1,d2,d3,d4, -⟩:=qd h
 cases rt
 ·show 1≤t.i∧t.i≤_;omega
 ·show 1≤t.d∧t.d≤_;omega
theorem Y1 {t:TreeV}(h:t.validE=0)(kz z1 z2:List Int)(row i:Nat)(la rt:Bool)(d:List Int):((t.node kz z1 z2 row i la rt d).length:Int)=t.outN rt:=qdD (JU h rt)
theorem JC (t:TreeV)(kz z1 z2:List Int)(row:Nat)(rt:Bool)(L:List (List Int)){m i:Nat}(h:i<m):qJ (t.rowZ kz z1 z2 row rt L m) i=t.node kz z1 z2 row i (decide (i+1=L.length)) rt (qJ L i):=by
 simp[qJ,TreeV.rowZ,Lg,h]
theorem JT {t:TreeV}(h:t.validE=0)(kz z1 z2:List Int){L0:List (List Int)}{R:Nat}(hT:t.topAt kz z1 z2 L0 R):(t.lvlZ kz z1 z2 L0 R).length=1∧((qJ (t.lvlZ kz z1 z2 L0 R) 0).length:Int)=t.d:=by
 obtain⟨h1,h2, -⟩:=hT;obtain⟨r,rfl⟩: ∃r,R=r+1:=⟨R - 1,by omega⟩;rw[Nat.add_sub_cancel]at h2;have hu:(t.upZ (r+1) (t.lvlZ kz z1 z2 L0 r)).length=1:=by unfold TreeV.upZ;rw[if_pos h2];rfl
 show(t.rowZ _ _ _ _ _ _ _).length=1∧((qJ (t.rowZ _ _ _ _ _ _ _) 0).length:Int)=t.d
 rw[TreeV.rowZ_length,JC _ _ _ _ _ _ _ (show 0<(t.upZ (r+1) (t.lvlZ kz z1 z2 L0 r)).length by omega),h2];exact⟨hu,Y1 h ..⟩
theorem Ze {t:TreeV}(h:t.validE=0)(hl:0≤t.l∧t.l≤4294967295)(kz z1 z2 zs:List Int)(hn:zs.length≤4194304):((t.digZ kz z1 z2 zs).length:Int)=t.d:=by
 have hL:=qz h hl kz z1 z2 zs;have hT:=yY (qK h hn) kz z1 z2 (Qr h hl kz z1 z2 zs) hL.2.2;unfold TreeV.digZ;rw[if_pos h];exact(JT h kz z1 z2 hT).2
end Go.Proofs.YtdndeffmlhaipaaGreatDoor
