/- The rows above the leaves, by the reference. No condition. -/
import Derived.Test.YtdndeffmlhaipaaGreatDoorS37
import Derived.Test.YtdndeffmlhaipaaGreatDoorS38
import Derived.Test.YtdndeffmlhaipaaGreatDoorS05
set_option linter.all false
set_option maxRecDepth 100000
set_option maxHeartbeats 8000000
namespace Go.Proofs.YtdndeffmlhaipaaGreatDoor
open Go.ChangeShapes Go.WideShapes Go.ChangeAt Go.RowKit Go.Joins Go.Shelf Go.Maps
open Go.Lib (hid)
attribute [local go_sem] Oper.semAt_some
def TreeV.lvlC (t:TreeV)(kz z1 z2:List Int)(L0:List (List Int))(r:Nat):List CallS:=t.rowC kz z1 z2 (r+1) (t.rootZ (r+1) (t.lvlZ kz z1 z2 L0 r).length) (t.upZ (r+1) (t.lvlZ kz z1 z2 L0 r)) (t.upZ (r+1) (t.lvlZ kz z1 z2 L0 r)).length
def TreeV.lvlsC (t:TreeV)(kz z1 z2:List Int)(L0:List (List Int))(m:Nat):List (List CallS):=(List.range m).map (t.lvlC kz z1 z2 L0)
theorem jS (t:TreeV)(kz z1 z2:List Int)(L0:List (List Int))(m:Nat):t.lvlsC kz z1 z2 L0 (m+1)=t.lvlsC kz z1 z2 L0 m++[t.lvlC kz z1 z2 L0 m]:=by simp[TreeV.lvlsC,List.range_succ]
theorem yD (t:TreeV)(kz z1 z2:List Int)(L0:List (List Int))(m:Nat):(t.lvlsC kz z1 z2 L0 m).length=m:=by simp[TreeV.lvlsC]
def zX (L:List (List Int))(a m:Nat):List Int:=((L.drop a).take (m - a)).flatten
theorem J3 {L:List (List Int)}{a m:Nat}(h1:a≤m)(h2:m<L.length):zX L a (m+1)=zX L a m++qK L m:=by
 unfold zX;rw[show m+1 - a=(m - a)+1 by omega,jx (by simp;omega),qaL,show a+(m - a)=m by omega]
theorem qdm (L:List (List Int))(a:Nat):zX L a a=[]:=by simp[zX]
theorem qez (L:List (List Int))(a m:Nat):(zX L a m).length≤L.flatten.length:=yQ ((List.take_sublist _ _).trans (List.drop_sublist _ _))
theorem ListH.bounds {w:World}{v:Value}{L:List (List Int)}(h:ListH w v L): ∀l∈L,∀z∈l,0≤z∧z≤255:=by
 obtain⟨a,cap,rfl, -, -,h3⟩:=h;intro l hl z hz;rcases h3 with rfl|⟨g,off, -, -,h5⟩
 ·cases hl
 ·obtain⟨i,hi,rfl⟩:=List.mem_iff_getElem.1 hl;obtain⟨x, -,h6⟩:=h5 i hi;have e:qK L i=L[i]:=by unfold qK;simp[Lg,hi]
  rw[e]at h6;exact h6.1 z hz
theorem qbD {L:List (List Int)}{a m:Nat}(h: ∀l∈L,∀z∈l,0≤z∧z≤255): ∀z∈zX L a m,0≤z∧z≤255:=by
 intro z hz;obtain⟨l,hl,hzl⟩:=List.mem_flatten.1 hz;exact h l (List.mem_of_mem_drop (List.mem_of_mem_take hl)) z hzl
theorem qdx (t:TreeV)(kz z1 z2:List Int)(total:Nat)(L0:List (List Int))(v:Value)(w0 w:World)(h:TreeOk t kz z1 z2 w0)(he:t.err total=0)(hv:ListH w v L0)(hw:Below w0.heap.size w0 w)(h0:L0.length=lvs total t.ln)(h1: ∀z∈L0,z.length≤64)(hn:L0.length≤8388608)(ht:(total:Int)≤18446744073709551615):
  Calls Tryz.prog 44 #[t.val,.int .u64 total,v] w fun e w'=> ∃cv u,e= .returned (.tuple #[cv,u])∧LevO w0 w.heap.size w' cv (t.lvlsC kz z1 z2 L0 ((t.rowsOf total).length - 1))∧OwnB w.heap.size w' u (qK (t.lvlZ kz z1 z2 L0 ((t.rowsOf total).length - 1)) 0)∧Below w.heap.size w w':=by
 obtain⟨b0,hb0⟩:=Ex w.heap.size;have hw0:w0.heap.size≤b0:=by have:=hw.size;omega
 have HW:=hid hw;have HT:=hid h;have HV:=hid hv;have HE:=hid he;obtain⟨ib,hib,hzb,hsb,hbb⟩:=info_parts yk;obtain⟨ic,hic,hzc,hsc,hbc⟩:=info_parts jH;obtain⟨il,hil,hzl,hsl,hbl⟩:=info_parts JX;obtain⟨i8,hi8,hz80,hz81,hz82⟩:=info_parts Qg;have hL0:L0≠[]:=List.length_pos_iff.1 (by rw[h0];unfold lvs;omega);have HF:=hid (QI h.v kz z1 z2 hL0 h1);have HRW:=hid (fun W:World=>JF t h.l total ht he W);have hR:=QZ he;have hpn:t.pn≤255:=by have:=(qq h.v).2.2.2.2.2.2.2.1;unfold TreeV.pn;omega
 have hlen:=hR.len;have hmost:=hR.most;have HRL:=hid (yV he kz z1 z2 h0 h1);have HNS:=hid (fun(r:Nat) (hr:r+1<(t.rowsOf total).length) (i:Nat) (hi:i<(t.upZ (r+1) (t.lvlZ kz z1 z2 L0 r)).length)=>qej he kz z1 z2 h0 h1 hr rfl rfl hi);have HSF:=hid (fun(W:World) (row:Nat) (i:Nat)=>zO t h.l total ht (row:Int) i W);rw[show YP t.fn t.pn (lvs total t.ln)=t.rowsOf total from rfl]at HRW;have hRn:(t.rowsOf total).length≤255:=by omega
 obtain⟨va,vc,rfl,hvc1,hvc2, -⟩:=id hv;have hbA:Below b0 w (w.alloc (.cells #[.int .i64 t.k,.int .i64 t.d,.int .i64 t.f,.int .i64 t.p,.int .u32 t.l,.int .i64 t.i,.slice t.ka t.kl t.kc,.slice t.sa t.sl t.sc,.slice t.pa t.pl t.pc] 26)):=by rw[←hb0];exact Br.alloc Nl _
 have hrA:=Wn w (.cells #[.int .i64 t.k,.int .i64 t.d,.int .i64 t.f,.int .i64 t.p,.int .u32 t.l,.int .i64 t.i,.slice t.ka t.kl t.kc,.slice t.sa t.sl t.sc,.slice t.pa t.pl t.pc] 26);rw[hb0]at hrA;obtain⟨RS,hRS⟩:=Ex (t.rowsOf total);rw[hRS]at HRW hlen hRn HRL HNS⊢;clear h hv hw he hL0 h0 h1 hR hmost hpn hRS;unfold TreeV.val at*;go_enter Tryz.func44,Tryz.ntmps44
 go_upto_region 1 with(fail)
 generalize w.alloc (.cells #[.int .i64 t.k,.int .i64 t.d,.int .i64 t.f,.int .i64 t.p,.int .u32 t.l,.int .i64 t.i,.slice t.ka t.kl t.kc,.slice t.sa t.sl t.sc,.slice t.pa t.pl t.pc] 26)=wA at*;go_wp2_with ((with_reducible show wpList _ _ _ (Oper.mk _ (Op.load 26 _) _ _ _ _::_) _ _);refine wpList_load_row rfl 26 _ rfl b0 rfl _ _ _ _ hrA Tryz.underlying26 rfl (by kernel_rfl) ?_)
 refine(HRW.out wA).mono ?_;rintro e wR ⟨rv,rfl,hro,hb3⟩;have hsA:b0<wA.heap.size:=(Ai hrA).1;have HR3:=hid (qe hrA hb3);have HB3:=hid (hbA.trans (hb3.mono (show b0≤wA.heap.size by omega)));have hs3:=hb3.size;obtain⟨bR,hbR⟩:=Ex wR.heap.size;have hb0R:b0<bR:=by omega
 have HRO:=hid hro;obtain⟨ra,rn,rc,rfl⟩:=qp hro;have hrows: ∃gR,ra=some ⟨gR,0,none⟩∧rn=RS.length∧gR<bR∧ ∀k,k<RS.length→wR.cell? ⟨gR,k,none⟩=some (.int .u64 (nth RS k)):=by
  obtain⟨gR,cap,e, -, -,h2,h3⟩:=Y4 hro (by omega);simp only[Value.slice.injEq]at e;obtain⟨rfl,rfl, -⟩:=e;exact⟨gR,rfl,rfl,by omega,h3⟩
 obtain⟨gR,rfl,rfl,hgR,hcR⟩:=hrows;have HCR:=hid hcR;have HVR:=hid (HV.out.below (hb0▸HB3.out));clear hb3 hrA hbA HRW hs3 hro hcR HRO HV hsA;go_wp2_with fail
 go_loopw [10,11,12] (fun o x i wr=> ∃r q:Nat,i= .int .i64 (q:Nat)∧q=r+1∧q≤RS.length∧LevO w0 bR wr o (t.lvlsC kz z1 z2 L0 r)∧ListH wr x (t.lvlZ kz z1 z2 L0 r)∧(1≤r→ListO bR wr x (t.lvlZ kz z1 z2 L0 r))∧Below bR wR wr) (fun _ _ i _=>256 - (intOf i).toNat)
 case atStart=>exact⟨0,1,rfl,rfl,by omega,LevO.nil _ _ _,HVR.out,fun h=>by omega,Below.refl _ _⟩
 case round=>
  obtain⟨r,q,rfl,hq,hqn,hlo,hx,hxo,hb⟩:=hrel;have hRn2:(RS.length:Int)≤255:=by omega
  by_cases hlt:q<RS.length
  case pos=>
   rename World=>wq
   have hlt2:(q:Int)<RS.length:=by omega
   obtain⟨f1,f2,f3⟩:=HF.out r;have hfl:=Y6 f3;have hup:=Y7 HT.out.v q f1;have hnq:nth RS q=(t.upZ q (t.lvlZ kz z1 z2 L0 r)).length:=by
    rw[←HRL.out q hlt,hq];exact qr ..
   have HNQ:=hid (fun(i:Nat) (hi:i<(t.upZ q (t.lvlZ kz z1 z2 L0 r)).length)=>by have:=HNS.out r (by omega) i (by rw[←hq];exact hi);rw[←hq]at this;exact this);have HIT:=hid (fun i=>Zc t q (t.lvlZ kz z1 z2 L0 r) i);have HLV:=hid (show t.lvlZ kz z1 z2 L0 q=t.rowZ kz z1 z2 q (t.rootZ q (t.lvlZ kz z1 z2 L0 r).length) (t.upZ q (t.lvlZ kz z1 z2 L0 r)) (t.upZ q (t.lvlZ kz z1 z2 L0 r)).length by rw[hq];rfl);have HLC:=hid (show t.lvlC kz z1 z2 L0 r=t.rowC kz z1 z2 q (t.rootZ q (t.lvlZ kz z1 z2 L0 r).length) (t.upZ q (t.lvlZ kz z1 z2 L0 r)) (t.upZ q (t.lvlZ kz z1 z2 L0 r)).length by rw[hq];rfl);have hUL:(t.upZ q (t.lvlZ kz z1 z2 L0 r)).length≤L0.length:=Nat.le_trans hup.2 f2;have hU1:=hup.1;have HDL:=hid (show ∀a m,(zX (t.lvlZ kz z1 z2 L0 r) a m).length≤536870912 from fun a m=>by have:=qez (t.lvlZ kz z1 z2 L0 r) a m;omega);have hLbl:(t.lvlZ kz z1 z2 L0 r).length≤8388608:=by omega
   generalize t.upZ q (t.lvlZ kz z1 z2 L0 r)=UU at*;generalize t.rootZ q (t.lvlZ kz z1 z2 L0 r).length=rt at*;generalize t.lvlZ kz z1 z2 L0 r=Lb at*;obtain⟨xa,xc,rfl,hxc1,hxc2, -⟩:=id hx;have HXB:=hid hx;have HLO:=hid hlo;have HB:=hid hb;have HQ:=hid hq;have HNQ2:=hid hnq;have hcq:wq.cell? ⟨gR,q,none⟩=some (.int .u64 (nth RS q)):=(hb.cell (p:=⟨gR,q,none⟩) hgR).trans (HCR.out q hlt);rw[hnq]at hcq;obtain⟨bN,hbN⟩:=Ex wq.heap.size;have hbRN:bR≤bN:=by have:=hb.size;omega
   have HRQ:=hid (qe HR3.out (hbR▸hb));have HBWQ:=hid (show Below w0.heap.size w0 wq from HW.out.trans ((HB3.out.trans (hb.mono (by omega))).mono hw0));clear hlo hx hxo hb hq hnq hup f1 f2 f3 hfl;go_wp2_with fail
   go_loopw [13,14,15] (fun s u i wr=> ∃j:Nat,i= .int .u64 (j:Nat)∧j≤UU.length∧CallsO w0 bN wr s (t.rowC kz z1 z2 q rt UU j)∧ListO bN wr u (t.rowZ kz z1 z2 q rt UU j)∧Below bN wq wr) (fun _ _ i _=>UU.length - (intOf i).toNat)
   case atStart=>exact⟨0,rfl,Nat.zero_le _,CallsO.nil _ _ _,ListO.nil _ _,Below.refl _ _⟩
   case round=>
    obtain⟨j,rfl,hj,hco,ho,hb⟩:=hrel;by_cases hjt:j<UU.length
    case pos=>
     have hjt2:(j:Int)<UU.length:=by omega
     have hLn:(UU.length:Int)≤16777216:=by omega
     have hcqr:wr.cell? ⟨gR,q,none⟩=some (.int .u64 (UU.length:Nat)):=(hb.cell (p:=⟨gR,q,none⟩) (show gR<bN by omega)).trans hcq;obtain⟨hth,a,b,hsp,hab,hbn,hda⟩:=HNQ.out j hjt;have HSJ:=hid (fun W:World=>HSF.out W q j);have hsR:t.spotR total (q:Int) j=⟨q,j,a,b,decide (j+1=UU.length),rt⟩:=by unfold TreeV.spotR;rw[if_pos ⟨HE.out,hth⟩];exact hsp
     have hsE:t.spotE total (q:Int) j=0:=by unfold TreeV.spotE;rw[if_neg (by simp[HE.out]),if_pos hth]
     rw[hsR,hsE]at HSJ;unfold SpotV.val at HSJ;simp only at HSJ
     have HTH:=hid hth;have HSPJ:=hid hsp;have HDA:=hid (show qK UU j=zX Lb a b from hda);obtain⟨ql,hql⟩: ∃q:Bool,decide (j+1=UU.length)=q:=⟨_,rfl⟩;rw[hql]at HSJ HSPJ;have HQL:=hid hql;have hrr:wr.heap[b0]? =some (.cells #[.int .i64 t.k,.int .i64 t.d,.int .i64 t.f,.int .i64 t.p,.int .u32 t.l,.int .i64 t.i,.slice t.ka t.kl t.kc,.slice t.sa t.sl t.sc,.slice t.pa t.pl t.pc] 26 (0,0)):=qe HRQ.out (hbN▸hb);have HBW:=hid (show Below w0.heap.size w0 wr from HBWQ.out.trans (hb.mono (by omega)));have hbNr:bN≤wr.heap.size:=by have:=hb.size;omega
     have hju2:IntKind.u64.wrap ((j:Int)+1)=((j+1:Nat):Int):=u64_wrap_id _ (by omega) (by omega);have HCO:=hid hco;have HO:=hid ho;have HBN:=hid hb;have hgRr:gR<wr.heap.size:=by omega
     clear hth hsp hda hql hsR hsE hco ho hb;go_wp2_with ((with_reducible show wpList _ _ _ (Oper.mk _ (Op.load 26 _) _ _ _ _::_) _ _);refine wpList_load_row rfl 26 _ rfl b0 rfl _ _ _ _ hrr Tryz.underlying26 rfl (by kernel_rfl) ?_)
     refine(HSJ.out wr).mono ?_;rintro e w4 ⟨rfl,hb4⟩;have HB4:=hid hb4;have hs4:=hb4.size;have hr4:=qe hrr hb4;clear hb4;go_upto_region 13 with(first|((with_reducible show wpList _ _ _ (Oper.mk none (Op.store 118 _ _) _ _ _ _::_) _ _);refine wpList_store_row rfl 118 _ _ rfl w4.heap.size #[.int .i64 (q:Nat),.int .u64 (j:Nat),.int .u64 (a:Nat),.int .u64 (b:Nat),.bool ql,.bool rt] rfl rfl 118 _ (Wn _ _) (by kernel_rfl) rfl (by simp[Value.oneCell']) ?_))
     refine qj ?_;intro V hV;obtain⟨bs,hbs⟩:=Ex w4.heap.size;have hrS:V.heap[bs]? =some (.cells #[.int .i64 (q:Nat),.int .u64 (j:Nat),.int .u64 (a:Nat),.int .u64 (b:Nat),.bool ql,.bool rt] 118 (0,0)):=by rw[hV,←hbs];exact setRow_heap _ _ _ _ _ _ (Wn _ _)
     have hbV:Below bs w4 V:=by rw[hV,←hbs];exact below_setRow (Br.alloc Nl _) Nl _
     rw[hbs];have hrT:V.heap[b0]? =some (.cells #[.int .i64 t.k,.int .i64 t.d,.int .i64 t.f,.int .i64 t.p,.int .u32 t.l,.int .i64 t.i,.slice t.ka t.kl t.kc,.slice t.sa t.sl t.sc,.slice t.pa t.pl t.pc] 26 (0,0)):=(hbV.block b0 (by omega)).trans hr4;have hbrV:Below wr.heap.size wr V:=HB4.out.trans (hbV.mono (by omega));have HBRV:=hid hbrV;have HBWV:=hid (HBW.out.trans (hbrV.mono (show w0.heap.size≤wr.heap.size by omega)));have hsV:bs<V.heap.size:=(Ai hrS).1;have hwV:wr.heap.size≤V.heap.size:=hbrV.size;have HRS:=hid hrS;have HRT:=hid hrT;obtain⟨bV,hbV2⟩:=Ex V.heap.size;have d2:V.cell? ⟨bs,2,none⟩=some (.int .u64 (a:Nat)):=qa hrS 2;have HHV:=hid hbV2;have HXV:=hid ((HXB.out.below (hbN▸HBN.out)).below hbrV);clear hbrV hbV hV HB4 hr4 hrr hs4 hbs hrS hrT hbV2;go_wp2_with fail
     go_loopw [18,19] (fun d k wr=> ∃m:Nat,k= .int .u64 (m:Nat)∧a≤m∧m≤b∧wr.ownsRow bV 5 1 d (zX Lb a m).length ((zX Lb a m).map qo)∧Below bV V wr) (fun _ k _=>b - (intOf k).toNat)
     case atStart=>exact⟨a,rfl,Nat.le_refl _,hab,by rw[qdm];exact Wo _ _ _ _,Below.refl _ _⟩
     case round=>
      obtain⟨m,rfl,ham,hmb,hdo,hb⟩:=hrel;have e3:wr.cell? ⟨bs,3,none⟩=some (.int .u64 (b:Nat)):=(hb.cell (p:=⟨bs,3,none⟩) (show bs<bV by rw[←HHV.out];exact hsV)).trans (qa HRS.out 3);have hbVr:bV≤wr.heap.size:=by have:=hb.size;rw[HHV.out]at this;exact this
      have hbsr:bs<wr.heap.size:=by rw[HHV.out]at hsV;omega
      by_cases hmt:m<b
      case pos=>
       have hmt2:(m:Int)<b:=by omega
       obtain⟨xa',xc',e, -, -,h3⟩:=HXV.out;obtain⟨g,off,rfl,h4,h5⟩:=h3.resolve_left (fun e=>by rw[e]at hbn;simp at hbn;omega);simp only[Value.slice.injEq]at e;obtain⟨rfl, -,rfl⟩:=e;obtain⟨xx,hxx,hxh⟩:=h5 m (by omega);obtain⟨xb,xd,rfl, -, -⟩:=hxh.slice;have c0:wr.cell? ⟨g,off+m,none⟩=some (.slice xb (qK Lb m).length xd):=(hb.cell (p:=⟨g,off+m,none⟩) (show g<bV by rw[←HHV.out];exact h4)).trans hxx;have hg0:g<wr.heap.size:=by rw[HHV.out]at h4;omega
       have HX:=hid (hxh.below (HHV.out.symm▸hb)).src;have HDO:=hid hdo;have HBI:=hid hb;have hfl:=HDL.out a (m+1);rw[J3 ham (by omega),List.length_append]at hfl;have HFL:=hid hfl;have hmL:(m:Int)<Lb.length:=by omega
       have hmu:IntKind.u64.wrap ((m:Int)+1)=((m+1:Nat):Int):=u64_wrap_id _ (by omega) (by omega);clear hxx hxh h5 h4 h3 hdo hb hfl;go_wp2_with (at_builtin;refine qD rfl _ _ _ rfl V bV HHV.out.symm HBI.out 5 i8 (.int .u8 0) 1 Tryz.underlying24 hi8 hz80 hz81 hz82 rfl _ _ _ rfl HDO.out _ _ _ rfl HX.out (by have:=HFL.out;unfold maxLen;omega) (by have:=HFL.out;omega) ?_;intro v' w' hown' hb')
       refine⟨⟨m+1,rfl,by omega,by omega,?_,hb'⟩,by simp[intOf];omega⟩;rw[J3 ham (by omega),List.length_append,List.map_append];exact hown'
      obtain rfl:m=b:=by omega
      rename World=>wd
      have hwd:wr.heap.size≤wd.heap.size:=by have:=hb.size;omega
      have hrd:wd.heap[b0]? =some (.cells #[.int .i64 t.k,.int .i64 t.d,.int .i64 t.f,.int .i64 t.p,.int .u32 t.l,.int .i64 t.i,.slice t.ka t.kl t.kc,.slice t.sa t.sl t.sc,.slice t.pa t.pl t.pc] 26 (0,0)):=qe HRT.out (HHV.out.symm▸hb);have HBRD:=hid (HBRV.out.trans (hb.mono (show wr.heap.size≤bV by rw[←HHV.out];exact hwV)));have hbwd:Below w0.heap.size w0 wd:=HBW.out.trans (HBRD.out.mono (show w0.heap.size≤wr.heap.size by omega));have HBWD:=hid hbwd;have hdz:OwnB bV wd u18 (qK UU j):=by
       rw[HDA.out];exact⟨qbD HXV.out.bounds,yP hdo⟩
      obtain⟨ad,nd,kd,rfl⟩:=qp hdo;have HDZ:=hid hdz;have HTC:=hid (zN t total HE.out HT.out.l ht z1 z2 q j (by omega) (by omega) HTH.out _ HSPJ.out ad nd kd wd (HT.out.s.below hbwd) (HT.out.p.below hbwd));unfold TreeV.val at HTC;have hdl:(qK UU j).length≤536870912:=by rw[HDA.out];exact HDL.out a _
      have HDLL:=hid hdl;clear hdo hb hbwd hdz hdl;go_wp2_with ((with_reducible show wpList _ _ _ (Oper.mk _ (Op.load 26 _) _ _ _ _::_) _ _);refine wpList_load_row rfl 26 _ rfl b0 rfl _ _ _ _ hrd Tryz.underlying26 rfl (by kernel_rfl) ?_)
      refine HTC.out.mono ?_;rintro e w5 ⟨bv,rfl,hbo,hb5⟩;obtain⟨a5,n5,k5,rfl⟩:=qp hbo;obtain⟨hkh,a6,n6,k6,e6⟩:=qf1 HT.out q (HBWD.out.trans (hb5.mono (show w0.heap.size≤wd.heap.size by omega))) bN;rw[e6]at hkh⊢;have HBO5:=hid hbo;have HB5:=hid hb5;clear hbo hb5 HTC;go_upto_region 19 with(first|((with_reducible show wpList _ _ _ (Oper.mk none (Op.store 40 _ _) _ _ _ _::_) _ _);refine wpList_store_row rfl 40 _ _ rfl w5.heap.size (yw t.k (.slice a5 n5 k5) (.slice a6 n6 k6) ql (t.outN rt) (.slice ad nd kd)) rfl rfl 40 _ (Wn _ _) (by kernel_rfl) rfl (by simp[Value.oneCell',yw]) ?_))
      refine qj ?_;intro X hX;obtain⟨p,hp⟩:=Ex w5.heap.size;have hX1:X.heap[p]? =some (.cells (yw t.k (.slice a5 n5 k5) (.slice a6 n6 k6) ql (t.outN rt) (.slice ad nd kd)) 40 (0,0)):=by rw[hX,←hp];exact setRow_heap _ _ _ _ _ _ (Wn _ _)
      have hX2:Below p w5 X:=by rw[hX,←hp];exact below_setRow (Br.alloc Nl _) Nl _
      rw[hp];have hs5:=HB5.out.size;have HWX:=hid (show Below wd.heap.size wd X from HB5.out.trans (hX2.mono (by omega)));have HX3:=hid (qf HBO5.out (fun g _ g2=>hX2.block g (by omega)));have hkX:KeepH w0 bN X (.slice a6 n6 k6) (zB q kz):=by rw[←e6];exact(qf1 HT.out q (HBWD.out.trans (HWX.out.mono (by omega))) bN).1
      have HKX:=hid hkX;have HDX:=hid (show KeepH w0 bN X (.slice ad nd kd) (qK UU j) from .inl ((HDZ.out.le (show bN≤bV by rw[←HHV.out];omega)).kb (KB.of_below HWX.out (Nat.zero_le _))));have HBrX:=hid (HBRD.out.trans (HWX.out.mono hwd));unfold yw at hX1;clear hX hp hX2 hkX;go_wp2_with ((with_reducible show wpList _ _ _ (Oper.mk _ (Op.load 40 _) _ _ _ _::_) _ _);refine wpList_load_row rfl 40 _ rfl p rfl _ _ _ _ hX1 Tryz.underlying40 rfl (by kernel_rfl) ?_)
      refine(JH HT.out (row:=q) (at_:=j) (by omega) (by omega) ql rt (qK UU j) (.slice ad nd kd) (.slice a5 n5 k5) (.slice a6 n6 k6) X _ HX3.out HKX.out.hold HDX.out.hold (by have:=HDLL.out;omega)).mono ?_;rintro e w6 ⟨u,rfl,hO,hb6⟩;obtain⟨a7,k7,rfl, -, -⟩:=hO.hold.slice;have hs6:=hb6.size;have hbLX:bN≤X.heap.size:=by have:=HBrX.out.size;omega
      have HK5:=hid (KB.of_below hb6 hbLX);have hr5:=qe hX1 hb6;have HO5:=hid (hO.le hbLX);have HB6:=hid (HBrX.out.trans (hb6.mono (show wr.heap.size≤X.heap.size from HBrX.out.size)));have HCA:=hid (show CallAt w0 bN w6 (t.callS kz z1 z2 q j ql rt (qK UU j)) [.int .i64 t.k,.slice a5 n5 k5,.slice a6 n6 k6,.bool ql,.int .i64 (t.outN rt),.slice ad nd kd] from
       ⟨_,_,_,_,_,_,_,_,_,rfl,⟨(HT.out.okD (row:=q) (at_:=j) (by omega) (by omega)).2.2.1,(yP (ownsRow_le HX3.out (show bN≤wd.heap.size by omega))).kb HK5.out⟩,HKX.out.kb (by omega) HK5.out,HDX.out.kb (by omega) HK5.out⟩)
      obtain⟨cs,hcl,hco,hcx⟩:=HCO.out;obtain⟨vs,hvo,hvx⟩:=HO.out;rw[Qh]at hcl hco hcx;rw[qr]at hvo hvx;have hvl:vs.length=j:=by have:=hvo.1;omega
      have HK15:=hid (KB.of_below HB6.out hbNr);have HCX:=hid (fun i hi=>(hcx i hi).kb (show w0.heap.size≤bN by omega) HK15.out);have HVX:=hid (fun i hi=>(hvx i hi).kb HK15.out);have HCRO:=hid (qf hco (fun g _ g2=>HB6.out.block g g2));have HVRO:=hid (qf hvo (fun g _ g2=>HB6.out.block g g2));obtain⟨a8,n8,k8,rfl⟩:=yY hco;obtain⟨a9,n9,k9,rfl⟩:=qp hvo;have hNd:t.node kz z1 z2 q j ql rt (qK UU j)=t.node kz z1 z2 q j (decide (j+1=UU.length)) rt (qK UU j):=by rw[HQL.out]
      have hCd:t.callS kz z1 z2 q j ql rt (qK UU j)=t.callS kz z1 z2 q j (decide (j+1=UU.length)) rt (qK UU j):=by rw[HQL.out]
      have HND:=hid hNd;have HCD:=hid hCd;generalize t.node kz z1 z2 q j ql rt (qK UU j)=N at*;generalize t.callS kz z1 z2 q j ql rt (qK UU j)=C at*;have hs15:=HB6.out.size;have hp5:p<w6.heap.size:=(Ai hr5).1;clear hb6 hO hNd hCd hco hcx hvo hvx HKX HDX HX3 HCO HO HBrX HBRV HBWV HSPJ HTH HSJ;go_upto_region 21 with(first|((with_reducible show wpList _ _ _ (Oper.mk _ (Op.load 40 _) _ _ _ _::_) _ _);refine wpList_load_row rfl 40 _ rfl p rfl _ _ _ _ hr5 Tryz.underlying40 rfl (by kernel_rfl) ?_)|((with_reducible show wpList _ _ _ (Oper.mk _ (Op.buildSlice _ _ _) _ _ _ _::_) _ _);refine ZF rfl _ rfl _ _ _ _ _ _ rfl ?_)|(at_builtin;refine Qt rfl _ _ _ rfl bN 40 (by decide) ic _ 6 96 Tryz.underlying47 hic hzc hsc hbc rfl (by decide) (.slice a8 n8 k8) j cs.flatten [.int .i64 t.k,.slice a5 n5 k5,.slice a6 n6 k6,.bool ql,.int .i64 (t.outN rt),.slice ad nd kd] _ rfl HCRO.out rfl rfl (by simp[Value.oneCell']) (by unfold maxLen;omega) (by omega) (by omega) ?_;intro v' w' hown' hkb' hsp'))
      have HVR6:=hid (qb3 HVRO.out (Yz HCRO.out HVRO.out (by decide) hsp'));have HC6:=hid (show CallsO w0 bN w' v' (t.rowC kz z1 z2 q rt UU (j+1)) from by
       rw[zz,←HCD.out];refine CallsO.snoc (w:=w6) (cs:=cs) (fun i hi=>?_) (by rw[Qh];exact hcl) HCA.out (by rw[Qh];exact hown') (by omega) hkb';rw[Qh]at hi;exact HCX.out i hi)
      have HK6:=hid hkb';have hs6':=hkb'.size;obtain⟨a8',n8',k8',rfl⟩:=yY hown';have HCR6:=hid hown';clear hown' hkb' hsp';go_wp2_with (first|((with_reducible show wpList _ _ _ (Oper.mk _ (Op.buildSlice _ _ _) _ _ _ _::_) _ _);refine Qi rfl _ rfl _ _ _ rfl ?_)|(at_builtin;refine Qt rfl _ _ _ rfl bN 24 (by decide) ib (.slice none 0 0) 1 24 Tryz.underlying60 hib hzb hsb hbb rfl (by decide) (.slice a9 n9 k9) j vs [.slice a7 N.length k7] _ rfl HVR6.out rfl rfl (by simp[Value.oneCell']) (by unfold maxLen;omega) (by omega) (by omega) ?_;intro v7 w7 hown7 hkb7 hsp7))
      refine⟨⟨j+1,rfl,by omega,?_,?_,(HBN.out.trans (HB6.out.mono hbNr)).trans ((HK6.out.trans hkb7).below)⟩,by simp[intOf];omega⟩
      ·exact HC6.out.kb (by omega) hkb7 (Yz HVR6.out HCR6.out (by decide) hsp7)
      ·rw[yz,←HND.out];refine ListO.snoc (w:=w') (vs:=vs) (x:= .slice a7 N.length k7) (fun i hi=>?_) (by rw[qr];exact hvl) (HO5.out.kb HK6.out) (by rw[qr];exact hown7) hkb7;rw[qr]at hi;exact(HVX.out i hi).kb HK6.out
    obtain rfl:j=UU.length:=by omega
    have hcqr:wr.cell? ⟨gR,q,none⟩=some (.int .u64 (UU.length:Nat)):=(hb.cell (p:=⟨gR,q,none⟩) (show gR<bN by omega)).trans hcq;have hbNr:bN≤wr.heap.size:=by have:=hb.size;omega
    have hgRr:gR<wr.heap.size:=by omega
    obtain⟨vs,hvo,hvx⟩:=HLO.out.below (show w0.heap.size≤wq.heap.size by omega) (hbN▸hb);have HLX:=hid hvx;rw[yD]at hvo;have HLR:=hid hvo;have HCO:=hid (hco.le hbRN);have HO:=hid (ho.le hbRN);have HBQ:=hid (HB.out.trans (hb.mono hbRN));obtain⟨cs, -,hcr, -⟩:=hco;obtain⟨vs2,hvr, -⟩:=ho;have HVR2:=hid hvr;obtain⟨a7,n7,k7,rfl⟩:=qp hvo;obtain⟨a8,n8,k8,rfl⟩:=yY hcr;obtain⟨a9,n9,k9,rfl⟩:=qp hvr;have hr3:r+1≤256:=by have:=HQ.out;omega
    clear hvo hvx hb hcr hvr;go_upto_region 23 with(first|((with_reducible show wpList _ _ _ (Oper.mk _ (Op.buildSlice _ _ _) _ _ _ _::_) _ _);refine qai rfl _ rfl _ _ _ rfl ?_)|(at_builtin;refine Qt rfl _ _ _ rfl bR 47 (by decide) il (.slice none 0 0) 1 24 Tryz.underlying91 hil hzl hsl hbl rfl (by decide) (.slice a7 n7 k7) r vs [.slice a8 n8 k8] _ rfl HLR.out rfl rfl (by simp[Value.oneCell']) (by unfold maxLen;omega) (by omega) (by omega) ?_;intro v' w' hown' hkb' hsp'))
    have HK6:=hid hkb';have HSP:=hid hsp';have HOW:=hid hown';have hjw:IntKind.i64.wrap ((q:Int)+1)=((q+1:Nat):Int):=by rw[IntKind.wrap_i64]<;>omega
    clear hown' hkb' hsp';go_wp2_with fail
    have hO6:ListO bR w' (.slice a9 n9 k9) (t.lvlZ kz z1 z2 L0 q):=by
     rw[HLV.out];exact HO.out.kb HK6.out (Yz HLR.out HVR2.out (by decide) HSP.out)
    refine⟨⟨q,q+1,rfl,rfl,by omega,?_,hO6.hold,fun _=>hO6,HBQ.out.trans HK6.out.below⟩,by simp[intOf];omega⟩;have e:=jS t kz z1 z2 L0 r;rw[←HQ.out,HLC.out]at e;rw[e];exact LevO.snoc (v:= .slice a7 n7 k7) (vs:=vs) (x:= .slice a8 n8 k8) (by rw[yD];exact HLR.out) HLX.out HCO.out (by rw[yD];exact HOW.out) (by omega) HK6.out HSP.out
  obtain rfl:q=RS.length:=by omega
  have hr1:r=RS.length - 1:=by omega
  have hxo:ListO bR wr u11 (t.lvlZ kz z1 z2 L0 r):=hxo (by omega);obtain⟨f1, -, -⟩:=HF.out r;have HR1:=hid hr1;obtain⟨g,cg,y,rfl,hg,hy,hoy⟩:=hxo.get (i:=0) (List.length_pos_iff.2 f1);obtain⟨xb,xd,rfl, -, -⟩:=hoy.hold.slice;have HOY:=hid (hoy.le (show b0≤bR by omega));have HLO:=hid (hlo.le (show b0≤bR by omega));have HB:=hid (HB3.out.trans (hb.mono (show b0≤bR by omega)));have hbRw:bR≤wr.heap.size:=by have:=hb.size;omega
  obtain⟨vs,hvo, -⟩:=hlo;obtain⟨a7,n7,k7,rfl⟩:=qp hvo;have hlp:0<(t.lvlZ kz z1 z2 L0 r).length:=List.length_pos_iff.2 f1;generalize (t.lvlZ kz z1 z2 L0 r).length=M at*;clear hvo hxo hoy hb hx hr1 f1;generalize hY:qK (t.lvlZ kz z1 z2 L0 r) 0=Y at*;have HY:=hid hY;clear hY;go_wp2_with fail
  refine qy (n:=6) (w0:=wr) (B:=wr.heap.size) [.v 90 (.slice a7 n7 k7),.v 91 (.slice (some ⟨g,0,none⟩) M cg),.v 92 (.pointer (some ⟨g,0,none⟩)),.v 93 (.slice xb Y.length xd),.v 6 (.slice a7 n7 k7),.v 7 (.slice xb Y.length xd)] trivial Br.drew Nl ?_ ?_
  ·repeat' (with_reducible first|exact qw|refine qu ?_ ?_)
   all_goals
    intro AA x W hA hW hBW hdep D K hK;have a10:=hA.2 10 (by decide);conv at a10=>rhs;whnf
    have a11:=hA.2 11 (by decide);conv at a11=>rhs;whnf
    simp only[QN,Q0]at D;clear hdep hA;first
    | go_simp
      exact hK _ _ BR rfl
    | have y0:=(hW.cell (p:=⟨g,0,none⟩) hg).trans hy
      have y1:g<W.heap.size:=by omega
      go_simp
      exact hK _ _ BR rfl
  intro x W hW hBW _;refine qt ?_;simp only[Qw,Act.put,Ls];have hWr:wr.heap.size=wr.heap.size:=rfl;go_wp2
  go_ret2
  exact⟨_,_,rfl,by(try rw[hb0]);(try rw[←HR1.out]);exact HLO.out.below (by omega) hW,by(try rw[hb0]);(try rw[←HR1.out]);rw[HY.out];exact HOY.out.kb (KB.of_below hW (Nat.zero_le _)),by(try rw[hb0]);exact HB.out.trans (hW.mono (by omega))⟩
end Go.Proofs.YtdndeffmlhaipaaGreatDoor
