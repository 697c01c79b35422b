/- The leaves' calls and outputs, by the reference. No condition. -/
import Derived.Test.YtdndeffmlhaipaaGreatDoorS35
import Derived.Test.YtdndeffmlhaipaaGreatDoorS31
import Derived.Test.YtdndeffmlhaipaaGreatDoorS36
set_option linter.all false
set_option maxRecDepth 100000
set_option maxHeartbeats 8000000
namespace Go.Proofs.YtdndeffmlhaipaaGreatDoor
open Go.ChangeShapes Go.WideShapes Go.ChangeAt Go.RowKit Go.Joins Go.Shelf Go.Maps
open Go.Lib (hid)
attribute [local go_sem] Oper.semAt_some
theorem qfj {w:World}{a:Option Addr}{n c lo hi:Nat}{zs:List Int}(h:Hold w (.slice a n c) zs)(h1:lo≤hi)(h2:hi≤zs.length):Hold w (.slice (if c=lo then a else a.map (·.add lo)) (hi - lo) (c - lo)) ((zs.drop lo).take (hi - lo)):=by
 refine⟨fun z hz=>h.1 z (List.mem_of_mem_drop (List.mem_of_mem_take hz)),?_⟩;have hl:((zs.drop lo).take (hi - lo)).length=hi - lo:=by simp;omega
 rcases h.2 with⟨rfl,e⟩|⟨ad,cap,e,k1,k2,k3⟩
 ·simp only[Value.slice.injEq]at e;obtain⟨rfl, -,rfl⟩:=e;simp only[List.length_nil]at h2;exact .inl ⟨by simp,by rw[show hi - lo=0 by omega,Nat.zero_sub];cases lo<;>rfl⟩
 ·simp only[Value.slice.injEq]at e;obtain⟨rfl, -,rfl⟩:=e;by_cases hc:c=lo
  ·rw[if_pos hc];exact .inr ⟨ad,c - lo,by rw[hl],by rw[hl];omega,by omega,.inl (List.eq_nil_of_length_eq_zero (by omega))⟩
  ·rw[if_neg hc];refine .inr ⟨ad.add lo,c - lo,by rw[hl];rfl,by rw[hl];omega,by omega,?_⟩;by_cases h0:(zs.drop lo).take (hi - lo)=[]
   ·exact .inl h0
   rcases k3 with k3|⟨b,off,rfl,k3,k4⟩
   ·rw[k3]at h0;simp at h0
   ·refine .inr ⟨b,off+lo,Go.WideShapes.add_plain _ _ _,k3,fun i hi=>?_⟩;rw[hl]at hi;rw[show off+lo+i=off+(lo+i) by omega,k4 (lo+i) (by omega)];simp[qm,Lg,List.getElem?_take,List.getElem?_drop,hi]
theorem zY {n:Nat}(zs:List Int)(hn:1≤n):(yr n zs).length=lvs zs.length n:=by
 unfold yr lvs;split
 ·rename_i h;subst h;simp[Qc]
 ·rename_i h;have h1:=List.length_pos_iff.2 h;rw[Qj];have:=jp (d:=n) (show 1≤zs.length from h1)
  omega
theorem qeq {t:TreeV}{zs:List Int}(he:t.err zs.length=0)(hn:1≤t.ln){i:Nat}(hi:i<(yr t.ln zs).length):
  t.there zs.length ((0:Nat):Int) i∧ ∃a b,t.spot zs.length 0 i=⟨0,i,a,b,decide (i+1=(yr t.ln zs).length),false⟩∧a≤b∧b≤zs.length∧qK (yr t.ln zs) i=(zs.drop a).take (b - a):=by
 have hR:=QZ he;have hcl:=zY zs hn;have hf:=hR.first
 have h2:=hR.len;refine⟨⟨by omega,by show 0<_;omega,by show i<nth _ 0;rw[hf];omega⟩,?_⟩;unfold TreeV.spot JB;rw[if_neg (by omega)];simp only[if_true];have hnth:qK (yr t.ln zs) i=(zs.drop (i*t.ln)).take t.ln:=by
  unfold yr at hi⊢;split
  ·rename_i h;subst h;have:i=0:=by simp at hi;omega
   subst this;simp[qK]
  ·rename_i h;rw[if_neg h,Qj]at hi;simp[qK,Y3,zS,Lg,List.getElem?_map,hi]
 have hil:i*t.ln≤zs.length:=qbu hn (by omega);by_cases h:i=nth (t.rowsOf zs.length) 0 - 1
 ·rw[if_pos h];refine⟨i*t.ln,zs.length,?_,hil,Nat.le_refl _,?_⟩
  ·rw[decide_eq_true (by rw[hf]at h;omega)]
  ·rw[hnth];have hd:(zs.drop (i*t.ln)).length=zs.length - i*t.ln:=by simp
   have hle:zs.length - i*t.ln≤t.ln:=by
    have hc:Qc zs.length t.ln≤i+1:=by
     rw[hf]at h;unfold lvs at h hcl;omega
    have:=qbE hn hc
    rw[Nat.add_mul,Nat.one_mul]at this;omega
   rw[List.take_of_length_le (by omega),List.take_of_length_le (by omega)]
 ·rw[if_neg h];have h3:i+1<lvs zs.length t.ln:=by rw[hf]at h;omega
  refine⟨i*t.ln,(i+1)*t.ln,?_,Nat.mul_le_mul_right _ (by omega),qbu hn h3,?_⟩
  ·rw[decide_eq_false (by omega)]
  ·rw[hnth,Nat.add_mul,Nat.one_mul,Nat.add_sub_cancel_left]
theorem JH {t:TreeV}{kz z1 z2:List Int}{w:World}(h:TreeOk t kz z1 z2 w){row at_:Nat}(hr:row≤255)(ha:at_<281474976710656)(la rt:Bool)(ds:List Int)(dv bv kv:Value)(W:World)(b:Nat)
  (ho:W.ownsRow b 5 1 bv (mB t.big) ((t.blk z1 z2 row at_).map qo)) (hk:Hold W kv (zB row kz)) (hd:Hold W dv ds) (hl:ds.length≤1073741824):
  Calls Tryz.prog 63 #[.agg (yw t.k bv kv la (t.outN rt) dv)] W fun e w'=> ∃u,e= .returned (.tuple #[u,.int .i64 0])∧OwnB W.heap.size w' u (t.node kz z1 z2 row at_ la rt ds)∧Below W.heap.size W w':=by
 obtain⟨h1,h2,h3,h4⟩:=h.okD hr ha;rw[←Yy h.v];have h5:=h4 rt;refine(qc1 t.big _ _ ds la _ bv kv dv W (Qd ho h3) hk hd (by omega) h1 h2 (by omega)).mono ?_;rintro e w' ⟨⟨u,rfl,hu⟩,hb⟩
 exact⟨u,rfl,⟨Y1 t kz z1 z2 row at_ la rt ds,hu⟩,hb⟩
theorem qf1 {t:TreeV}{kz z1 z2:List Int}{w W:World}(h:TreeOk t kz z1 z2 w)(row:Nat)(hb:Below w.heap.size w W)(B:Nat):KeepH w B W (qbw row (.slice t.ka t.kl t.kc)) (zB row kz)∧ ∃a n c,qbw row (.slice t.ka t.kl t.kc)= .slice a n c:=by
 unfold qbw zB;split
 ·exact⟨.inr ⟨h.k,hb⟩,_,_,_,rfl⟩
 ·exact⟨.inl ⟨fun _ h=>by simp at h,.inl ⟨rfl,rfl⟩⟩,_,_,_,rfl⟩
theorem qcc (t:TreeV)(kz z1 z2 zs:List Int)(v:Value)(w0 w:World)(h:TreeOk t kz z1 z2 w0)(he:t.err zs.length=0)(hv:Hold w0 v zs)(hw:Below w0.heap.size w0 w)(hn:zs.length≤4194304):
  Calls Tryz.prog 43 #[t.val,v] w fun e w'=> ∃cv u,e= .returned (.tuple #[cv,u])∧CallsO w0 w.heap.size w' cv (t.rowC kz z1 z2 0 false (yr t.ln zs) (yr t.ln zs).length)∧ListO w.heap.size w' u (t.rowZ kz z1 z2 0 false (yr t.ln zs) (yr t.ln zs).length)∧Below w.heap.size w w':=by
 obtain⟨b0,hb0⟩:=Ex w.heap.size;have hw0:w0.heap.size≤b0:=by have:=hw.size;omega
 have HW:=hid hw;have HT:=hid h;have HV:=hid hv;obtain⟨ib,hib,hzb,hsb,hbb⟩:=info_parts yk;obtain⟨ic,hic,hzc,hsc,hbc⟩:=info_parts jH;have hlv:=fun W:World=>jc t h.l zs.length (by omega) he W
 have HLV:=hid hlv;obtain⟨va,vc,rfl,hvc1,hvc2⟩:=hv.slice;have hbA:Below b0 w (w.alloc (.cells #[.int .i64 t.k,.int .i64 t.d,.int .i64 t.f,.int .i64 t.p,.int .u32 t.l,.int .i64 t.i,.slice t.ka t.kl t.kc,.slice t.sa t.sl t.sc,.slice t.pa t.pl t.pc] 26)):=by rw[←hb0];exact Br.alloc Nl _
 have hrA:=Wn w (.cells #[.int .i64 t.k,.int .i64 t.d,.int .i64 t.f,.int .i64 t.p,.int .u32 t.l,.int .i64 t.i,.slice t.ka t.kl t.kc,.slice t.sa t.sl t.sc,.slice t.pa t.pl t.pc] 26);rw[hb0]at hrA;have hln:1≤t.ln:=(yl h.l he).1;have hcl:=zY zs hln;have hcl2:=J4 zs hln;have HCN:=hid (fun i=>qcn (n:=t.ln) zs i);have HSP:=hid (fun i hi=>qeq (i:=i) he hln hi);rw[←hcl]at HLV;have HE:=hid he;have HSF:=hid (fun(W:World) (i:Nat)=>zO t h.l zs.length (by omega) ((0:Nat):Int) i W);generalize yr t.ln zs=L at*;clear h hv hln hw hcl hlv he;unfold TreeV.val at*;go_enter Tryz.func43,Tryz.ntmps43
 go_upto_region 1 with(fail)
 generalize w.alloc (.cells #[.int .i64 t.k,.int .i64 t.d,.int .i64 t.f,.int .i64 t.p,.int .u32 t.l,.int .i64 t.i,.slice t.ka t.kl t.kc,.slice t.sa t.sl t.sc,.slice t.pa t.pl t.pc] 26)=wA at*;have hju:IntKind.u64.wrap (zs.length:Int)=(zs.length:Int):=u64_wrap_id _ (by omega) (by omega);go_wp2_with ((with_reducible show wpList _ _ _ (Oper.mk _ (Op.load 26 _) _ _ _ _::_) _ _);refine wpList_load_row rfl 26 _ rfl b0 rfl _ _ _ _ hrA Tryz.underlying26 rfl (by kernel_rfl) ?_)
 refine(HLV.out wA).mono ?_;rintro e w3 ⟨rfl,hb3⟩;have HR3:=hid (qe hrA hb3);have HB3:=hid (hbA.trans (hb3.mono (show b0≤wA.heap.size by have:=(Ai hrA).1;omega)));have hs3:b0<w3.heap.size:=(Ai HR3.out).1;obtain⟨bL,hbL⟩:=Ex w3.heap.size;have hb0L:b0<bL:=by omega
 clear hb3 hrA hbA HLV hs3;go_wp2_with fail
 go_loopw [9,10,11] (fun s u i wr=> ∃j:Nat,i= .int .u64 (j:Nat)∧j≤L.length∧CallsO w0 bL wr s (t.rowC kz z1 z2 0 false L j)∧ListO bL wr u (t.rowZ kz z1 z2 0 false L j)∧Below bL w3 wr) (fun _ _ i _=>L.length - (intOf i).toNat)
 case atStart=>exact⟨0,rfl,Nat.zero_le _,CallsO.nil _ _ _,ListO.nil _ _,Below.refl _ _⟩
 case round=>
  obtain⟨j,rfl,hj,hco,ho,hb⟩:=hrel;by_cases hlt:j<L.length
  case pos=>
   have hlt2:(j:Int)<L.length:=by omega
   have hLn:(L.length:Int)≤16777216:=by omega
   obtain⟨hth,a,b,hsp,hab,hbn,hda⟩:=HSP.out j hlt;have HSJ:=hid (fun W:World=>HSF.out W j);have hsR:t.spotR zs.length ((0:Nat):Int) j=⟨0,j,a,b,decide (j+1=L.length),false⟩:=by unfold TreeV.spotR;rw[if_pos ⟨HE.out,hth⟩];exact hsp
   have hsE:t.spotE zs.length ((0:Nat):Int) j=0:=by unfold TreeV.spotE;rw[if_neg (by simp[HE.out]),if_pos hth]
   rw[hsR,hsE]at HSJ;unfold SpotV.val at HSJ;simp only at HSJ
   have HTH:=hid hth;have HSPJ:=hid hsp;have HDA:=hid hda;obtain⟨ql,hql⟩: ∃q:Bool,decide (j+1=L.length)=q:=⟨_,rfl⟩;rw[hql]at HSJ HSPJ;have HQL:=hid hql;have hrr:wr.heap[b0]? =some (.cells #[.int .i64 t.k,.int .i64 t.d,.int .i64 t.f,.int .i64 t.p,.int .u32 t.l,.int .i64 t.i,.slice t.ka t.kl t.kc,.slice t.sa t.sl t.sc,.slice t.pa t.pl t.pc] 26 (0,0)):=qe HR3.out (hbL▸hb);have HBW:=hid (show Below w0.heap.size w0 wr from HW.out.trans ((HB3.out.trans (hb.mono (by omega))).mono hw0));have hbLr:bL≤wr.heap.size:=by have:=hb.size;omega
   have hju2:IntKind.u64.wrap ((j:Int)+1)=((j+1:Nat):Int):=u64_wrap_id _ (by omega) (by omega);have HCO:=hid hco;have HO:=hid ho;have HB:=hid hb;clear hth hsp hda hql hsR hsE hco ho hb;go_wp2_with ((with_reducible show wpList _ _ _ (Oper.mk _ (Op.load 26 _) _ _ _ _::_) _ _);refine wpList_load_row rfl 26 _ rfl b0 rfl _ _ _ _ hrr Tryz.underlying26 rfl (by kernel_rfl) ?_)
   refine(HSJ.out wr).mono ?_;rintro e w4 ⟨rfl,hb4⟩;have HB4:=hid hb4;have hs4:=hb4.size;have hr4:=qe hrr hb4;clear hb4;go_upto_region 9 with(first|((with_reducible show wpList _ _ _ (Oper.mk none (Op.store 118 _ _) _ _ _ _::_) _ _);refine wpList_store_row rfl 118 _ _ rfl w4.heap.size #[.int .i64 0,.int .u64 (j:Nat),.int .u64 (a:Nat),.int .u64 (b:Nat),.bool ql,.bool false] rfl rfl 118 _ (Wn _ _) (by kernel_rfl) rfl (by simp[Value.oneCell']) ?_))
   refine qj ?_;intro V hV;obtain⟨bs,hbs⟩:=Ex w4.heap.size;have hrS:V.heap[bs]? =some (.cells #[.int .i64 0,.int .u64 (j:Nat),.int .u64 (a:Nat),.int .u64 (b:Nat),.bool ql,.bool false] 118 (0,0)):=by rw[hV,←hbs];exact setRow_heap _ _ _ _ _ _ (Wn _ _)
   have hbV:Below bs w4 V:=by rw[hV,←hbs];exact below_setRow (Br.alloc Nl _) Nl _
   rw[hbs];have hrT:V.heap[b0]? =some (.cells #[.int .i64 t.k,.int .i64 t.d,.int .i64 t.f,.int .i64 t.p,.int .u32 t.l,.int .i64 t.i,.slice t.ka t.kl t.kc,.slice t.sa t.sl t.sc,.slice t.pa t.pl t.pc] 26 (0,0)):=(hbV.block b0 (by omega)).trans hr4;have hbrV:Below wr.heap.size wr V:=HB4.out.trans (hbV.mono (by omega));have HBRV:=hid hbrV;have HBWV:=hid (HBW.out.trans (hbrV.mono (show w0.heap.size≤wr.heap.size by omega)));have hwV:w0.heap.size≤V.heap.size:=HBWV.out.size;have hsV:bs<V.heap.size:=(Ai hrS).1;obtain⟨A,hA⟩: ∃A,(if vc=a then va else va.map (·.add a))=A:=⟨_,rfl⟩;have hdh:Hold w0 (.slice A (b - a) (vc - a)) (qK L j):=by rw[HDA.out,←hA];exact qfj HV.out hab hbn
   have HDH:=hid hdh;have HAA:=hid hA;have HTC:=hid (fun(W:World) (hb:Below w0.heap.size w0 W)=>zN t zs.length HE.out HT.out.l (by omega) z1 z2 0 j (by omega) (by omega) HTH.out _ HSPJ.out A (b - a) (vc - a) W (HT.out.s.below hb) (HT.out.p.below hb));unfold TreeV.val at HTC;clear hdh hA hbrV hbV hV HB4 hr4 hrr hs4 hbs;refine qy (n:=11) (w0:=V) (B:=V.heap.size) [.v 38 (.agg #[.int .i64 t.k,.int .i64 t.d,.int .i64 t.f,.int .i64 t.p,.int .u32 t.l,.int .i64 t.i,.slice t.ka t.kl t.kc,.slice t.sa t.sl t.sc,.slice t.pa t.pl t.pc]),.v 39 (.int .u64 (zs.length:Nat)),.v 40 (.int .u64 (j:Nat)),.v 41 (.slice va zs.length vc),.v 42 (.pointer (some ⟨bs,2,none⟩)),.v 43 (.int .u64 (a:Nat)),.v 44 (.pointer (some ⟨bs,3,none⟩)),.v 45 (.int .u64 (b:Nat)),.v 46 (.slice A (b - a) (vc - a)),.p 47 (fun u W=> ∃bv,u= .agg (yw t.k bv (qbw 0 (.slice t.ka t.kl t.kc)) ql (t.outN false) (.slice A (b - a) (vc - a)))∧W.ownsRow V.heap.size 5 1 bv (mB t.big) ((t.blk z1 z2 0 j).map qo)),.p 14 (fun u W=> ∃p,u= .pointer (some ⟨p,0,none⟩)∧V.heap.size≤p∧W.heap[p]? =some (.cells #[.int .i64 0,.slice none 0 0,.slice none 0 0,.bool false,.int .i64 0,.slice none 0 0] 40 (0,0)))] (by exact⟨(fun _ _ _ h hb=>by obtain⟨r,e,h⟩:=h;exact⟨r,e,qf h (fun g _ hg=>hb.block g hg)⟩),(fun _ _ _ h hb=>by obtain⟨p,e,h3,h4⟩:=h;exact⟨p,e,h3,qe h4 hb⟩),trivial⟩) Br.drew Nl ?_ ?_
   ·repeat' (with_reducible first|exact qw|refine qu ?_ ?_)
    ·intro AA x W hA hW hBW hdep D K hK;have a2:=hA.2 2 (by decide);conv at a2=>rhs;whnf
     clear hdep hA;exact wp_load_row 26 _ rfl b0 a2 _ _ _ _ (qe hrT hW) Tryz.underlying26 rfl (by kernel_rfl) (hK _ _ Br rfl)
    all_goals try
     intro AA x W hA hW hBW hdep D K hK;have a1:=hA.2 1 (by decide);conv at a1=>rhs;whnf
     have a6:=hA.2 6 (by decide);conv at a6=>rhs;whnf
     have a11:=hA.2 11 (by decide);conv at a11=>rhs;whnf
     have a12:=hA.2 12 (by decide);conv at a12=>rhs;whnf
     simp only[QN,Q0]at D;clear hdep hA;first
     | go_simp
       exact hK _ _ BR rfl
     | have y0:W.cell? ⟨bs,2,none⟩=some (.int .u64 (a:Nat)):=qa (qe hrS hW) 2
       have y1:W.cell? ⟨bs,3,none⟩=some (.int .u64 (b:Nat)):=qa (qe hrS hW) 3;have y2:bs<W.heap.size:=by omega
       go_simp
       exact hK _ _ BR rfl
    ·intro AA x W hA hW hBW hdep _ K hK;have g41:=gv hA hdep 3 41;have g43:=gv hA hdep 5 43;have g45:=gv hA hdep 7 45;clear hdep hA;have y5:b≤vc:=by omega
     go_simp
     rw[HAA.out];exact hK _ _ BR rfl
    ·intro AA x W hA hW hBW hdep _ K hK;have g38:=gv hA hdep 0 38;have g39:=gv hA hdep 1 39;have g40:=gv hA hdep 2 40;have g46:=gv hA hdep 8 46;clear hdep hA;go_simp
     refine(HTC.out W (HBWV.out.trans (hW.mono (by omega)))).mono ?_;rintro e w5 ⟨bv,rfl,hbo,hb5⟩;exact hK _ _ hb5 ⟨bv,rfl,ownsRow_le hbo hBW⟩
    ·intro AA x W hA hW hBW hdep _ K hK;clear hdep hA;go_simp
     exact hK _ _ (Br.alloc Nl _) ⟨W.heap.size,rfl,hBW,Wn W _⟩
   intro x W hW hBW hall;obtain⟨e47,e14, -⟩:=hall;change (fun u W=> ∃bv,u= .agg (yw t.k bv (qbw 0 (.slice t.ka t.kl t.kc)) ql (t.outN false) (.slice A (b - a) (vc - a)))∧W.ownsRow V.heap.size 5 1 bv (mB t.big) ((t.blk z1 z2 0 j).map qo)) (x 47) W at e47
   change (fun u W=> ∃p,u= .pointer (some ⟨p,0,none⟩)∧V.heap.size≤p∧W.heap[p]? =some (.cells #[.int .i64 0,.slice none 0 0,.slice none 0 0,.bool false,.int .i64 0,.slice none 0 0] 40 (0,0))) (x 14) W at e14
   obtain⟨bv,e47,hbo⟩:=e47;obtain⟨p,ep,hp1,hp2⟩:=e14;obtain⟨a5,n5,k5,rfl⟩:=qp hbo;obtain⟨hkh,a6,n6,k6,e6⟩:=qf1 HT.out 0 (HBWV.out.trans (hW.mono (by omega))) bL;rw[e6]at e47 hkh;refine qn ?_;simp only[Qw,Act.put,Ls,ep,e47];refine wpList_store_row rfl 40 _ _ rfl p (yw t.k (.slice a5 n5 k5) (.slice a6 n6 k6) ql (t.outN false) (.slice A (b - a) (vc - a))) rfl rfl 40 _ hp2 (by kernel_rfl) rfl (by simp[Value.oneCell',yw]) ?_;refine qt ?_;have hX1:=hid (setRow_heap W p _ (yw t.k (.slice a5 n5 k5) (.slice a6 n6 k6) ql (t.outN false) (.slice A (b - a) (vc - a))) _ _ hp2);have hX2:=hid (below_setRow hW hp1 (yw t.k (.slice a5 n5 k5) (.slice a6 n6 k6) ql (t.outN false) (.slice A (b - a) (vc - a))));have hX3:=hid (qQ (cs:=yw t.k (.slice a5 n5 k5) (.slice a6 n6 k6) ql (t.outN false) (.slice A (b - a) (vc - a))) hbo hp2 (by decide));generalize W.setRow p (yw t.k (.slice a5 n5 k5) (.slice a6 n6 k6) ql (t.outN false) (.slice A (b - a) (vc - a)))=X at hX1 hX2 hX3⊢;clear hW hBW hp2 hbo hkh ep e47 HTC;have hVX:=hX2.out.size;have HBWX:=hid (HBWV.out.trans (hX2.out.mono hwV));have HBrX:=hid (HBRV.out.trans (hX2.out.mono (show wr.heap.size≤V.heap.size by have:=HBRV.out.size;omega)));have hkX:KeepH w0 bL X (.slice a6 n6 k6) (zB 0 kz):=by rw[←e6];exact(qf1 HT.out 0 HBWX.out bL).1
   have HKX:=hid hkX;have HDX:=hid (show KeepH w0 bL X (.slice A (b - a) (vc - a)) (qK L j) from .inr ⟨HDH.out,HBWX.out⟩);clear hkX;unfold yw at hX1;go_wp2_with ((with_reducible show wpList _ _ _ (Oper.mk _ (Op.load 40 _) _ _ _ _::_) _ _);refine wpList_load_row rfl 40 _ rfl p rfl _ _ _ _ hX1.out Tryz.underlying40 rfl (by kernel_rfl) ?_)
   refine(JH HT.out (row:=0) (at_:=j) (by omega) (by omega) ql false (qK L j) (.slice A (b - a) (vc - a)) (.slice a5 n5 k5) (.slice a6 n6 k6) X _ hX3.out HKX.out.hold HDX.out.hold (by have:=HCN.out j;omega)).mono ?_;rintro e w5 ⟨u,rfl,hO,hb5⟩;obtain⟨a7,k7,rfl, -, -⟩:=hO.hold.slice;have hs5:=hb5.size;have hbLX:bL≤X.heap.size:=by have:=HBrX.out.size;omega
   have HK5:=hid (KB.of_below hb5 hbLX);have hr5:=qe hX1.out hb5;have HO5:=hid (hO.le hbLX);have HB5:=hid (HBrX.out.trans (hb5.mono (show wr.heap.size≤X.heap.size from HBrX.out.size)));have HCA:=hid (show CallAt w0 bL w5 (t.callS kz z1 z2 0 j ql false (qK L j)) [.int .i64 t.k,.slice a5 n5 k5,.slice a6 n6 k6,.bool ql,.int .i64 (t.outN false),.slice A (b - a) (vc - a)] from
    ⟨_,_,_,_,_,_,_,_,_,rfl,⟨(HT.out.okD (row:=0) (at_:=j) (by omega) (by omega)).2.2.1,(yP (ownsRow_le hX3.out (show bL≤V.heap.size by have:=HBRV.out.size;omega))).kb HK5.out⟩,HKX.out.kb (by omega) HK5.out,HDX.out.kb (by omega) HK5.out⟩)
   obtain⟨cs,hcl,hco,hcx⟩:=HCO.out;obtain⟨vs,hvo,hvx⟩:=HO.out;rw[Qh]at hcl hco hcx;rw[qr]at hvo hvx;have hvl:vs.length=j:=by have:=hvo.1;omega
   have HK15:=hid (KB.of_below HB5.out hbLr);have HCX:=hid (fun i hi=>(hcx i hi).kb (show w0.heap.size≤bL by omega) HK15.out);have HVX:=hid (fun i hi=>(hvx i hi).kb HK15.out);have HCRO:=hid (qf hco (fun g _ g2=>HB5.out.block g g2));have HVRO:=hid (qf hvo (fun g _ g2=>HB5.out.block g g2));obtain⟨a8,n8,k8,rfl⟩:=yY hco;obtain⟨a9,n9,k9,rfl⟩:=qp hvo;have hNd:t.node kz z1 z2 0 j ql false (qK L j)=t.node kz z1 z2 0 j (decide (j+1=L.length)) false (qK L j):=by rw[HQL.out]
   have hCd:t.callS kz z1 z2 0 j ql false (qK L j)=t.callS kz z1 z2 0 j (decide (j+1=L.length)) false (qK L j):=by rw[HQL.out]
   have HND:=hid hNd;have HCD:=hid hCd;generalize t.node kz z1 z2 0 j ql false (qK L j)=N at*;generalize t.callS kz z1 z2 0 j ql false (qK L j)=C at*;have hs15:=HB5.out.size;have hp5:p<w5.heap.size:=(Ai hr5).1;clear hb5 hO hNd hCd hco hcx hvo hvx HKX HDX hX3 hX2 HCO HO HBrX HBWX HBRV HBWV HDH HAA HSPJ HTH HSJ hrS hrT;go_upto_region 12 with(first|((with_reducible show wpList _ _ _ (Oper.mk _ (Op.load 40 _) _ _ _ _::_) _ _);refine wpList_load_row rfl 40 _ rfl p rfl _ _ _ _ hr5 Tryz.underlying40 rfl (by kernel_rfl) ?_)|((with_reducible show wpList _ _ _ (Oper.mk _ (Op.buildSlice _ _ _) _ _ _ _::_) _ _);refine ZF rfl _ rfl _ _ _ _ _ _ rfl ?_)|(at_builtin;refine Qt rfl _ _ _ rfl bL 40 (by decide) ic _ 6 96 Tryz.underlying47 hic hzc hsc hbc rfl (by decide) (.slice a8 n8 k8) j cs.flatten [.int .i64 t.k,.slice a5 n5 k5,.slice a6 n6 k6,.bool ql,.int .i64 (t.outN false),.slice A (b - a) (vc - a)] _ rfl HCRO.out rfl rfl (by simp[Value.oneCell']) (by unfold maxLen;omega) (by omega) (by omega) ?_;intro v' w' hown' hkb' hsp'))
   have HVR6:=hid (qb3 HVRO.out (Yz HCRO.out HVRO.out (by decide) hsp'));have HC6:=hid (show CallsO w0 bL w' v' (t.rowC kz z1 z2 0 false L (j+1)) from by
    rw[zz,←HCD.out];refine CallsO.snoc (w:=w5) (cs:=cs) (fun i hi=>?_) (by rw[Qh];exact hcl) HCA.out (by rw[Qh];exact hown') (by omega) hkb';rw[Qh]at hi;exact HCX.out i hi)
   have HK6:=hid hkb';have hs6:=hkb'.size;obtain⟨a8',n8',k8',rfl⟩:=yY hown';have HCR6:=hid hown';clear hown' hkb' hsp';go_wp2_with (first|((with_reducible show wpList _ _ _ (Oper.mk _ (Op.buildSlice _ _ _) _ _ _ _::_) _ _);refine Qi rfl _ rfl _ _ _ rfl ?_)|(at_builtin;refine Qt rfl _ _ _ rfl bL 24 (by decide) ib (.slice none 0 0) 1 24 Tryz.underlying60 hib hzb hsb hbb rfl (by decide) (.slice a9 n9 k9) j vs [.slice a7 N.length k7] _ rfl HVR6.out rfl rfl (by simp[Value.oneCell']) (by unfold maxLen;omega) (by omega) (by omega) ?_;intro v7 w7 hown7 hkb7 hsp7))
   refine⟨⟨j+1,rfl,by omega,?_,?_,(HB.out.trans (HB5.out.mono hbLr)).trans ((HK6.out.trans hkb7).below)⟩,by simp[intOf];omega⟩
   ·exact HC6.out.kb (by omega) hkb7 (Yz HVR6.out HCR6.out (by decide) hsp7)
   ·rw[yz,←HND.out];refine ListO.snoc (w:=w') (vs:=vs) (x:= .slice a7 N.length k7) (fun i hi=>?_) (by rw[qr];exact hvl) (HO5.out.kb HK6.out) (by rw[qr];exact hown7) hkb7;rw[qr]at hi;exact(HVX.out i hi).kb HK6.out
  obtain rfl:j=L.length:=by omega
  have HO:=hid (ho.le (show b0≤bL by omega));have HC:=hid (hco.le (show b0≤bL by omega));have HB:=hid (HB3.out.trans (hb.mono (show b0≤bL by omega)));obtain⟨cs, -,hcr, -⟩:=hco;obtain⟨vs,hvr, -⟩:=ho;obtain⟨a8,n8,k8,rfl⟩:=yY hcr;obtain⟨a9,n9,k9,rfl⟩:=qp hvr;clear hb hcr hvr;go_wp2
  go_ret2
  exact⟨_,_,rfl,by rw[hb0];exact HC.out,by rw[hb0];exact HO.out,by rw[hb0];exact HB.out⟩
end Go.Proofs.YtdndeffmlhaipaaGreatDoor
