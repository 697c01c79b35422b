/- What the program takes from a block of parameters, of both kinds. No condition. -/
import Derived.Test.YtdndeffmlhaipaaGreatC23
import Derived.Test.YtdndeffmlhaipaaGreatC24
import Derived.Test.YtdndeffmlhaipaaGreatC22
import Derived.Test.YtdndeffmlhaipaaGreatC18
import Derived.Test.YtdndeffmlhaipaaGreatC21
import Derived.Test.YtdndeffmlhaipaaGreatC04
import Derived.Laws.OwnMore
set_option linter.all false
set_option maxRecDepth 100000
set_option maxHeartbeats 8000000
namespace Go.Proofs.YtdndeffmlhaipaaGreat
open Go.ChangeShapes Go.WideShapes Go.ChangeAt Go.RowKit Go.Joins Go.Shelf Go.Maps
open Go.Lib (hid)
attribute [local go_sem] Oper.semAt_some
def okD (big ext:Bool)(zs:List Int):Prop:=zs.length=mB big∧(big=true→ ∀i,18≤i→i<32→qo zs i=0)∧(ext=true→xoZ big ext zs≠0)∧okC big (qo zs 0) (qo zs 1) (qo zs 3) (xoZ big ext zs) (qo zs (atB big 9))
theorem qcm (big:Bool)(zs:List Int)(v:Value)(w:World)(h:Holds8 w v zs)(hz: ∀z∈zs,0≤z∧z≤255)(hcap: ∀a n c,v= .slice a n c→n≤c∧(c:Int)≤9223372036854775807)(hok:okD big false zs):
  Calls Tryz.prog 52 #[.int .i64 (kB big),v,.bool false] w fun e w'=>(∃fo dp lf ofs nd inr sa pe,e= .returned (.tuple #[yP (qo zs 0) (qo zs 1) fo dp lf ofs 0 nd inr sa pe,.int .i64 0])∧sa.oneCell'=true∧pe.oneCell'=true)∧Below w.heap.size w w':=by
 obtain⟨a,cap,rfl,h⟩:=h;obtain⟨hl,hm, -,k0,k1,k3,k9⟩:=hok;obtain⟨b,off,rfl,hB⟩:=h.resolve_left (fun e=>by rw[e]at hl;cases big<;>simp[mB]at hl);obtain⟨hc1,hc2⟩:=hcap _ _ _ rfl
 cases big
 ·have hl':zs.length=32:=hl;rw[hl']at hc1⊢;exact jX zs b off cap w hB hz hc1 hc2 hl' k0 k1.2 (k3 rfl) k9.2
 ·have hl':zs.length=64:=hl;rw[hl']at hc1⊢;exact Jz zs b off cap w hB hz hc1 hc2 hl' (hm rfl) k0 k1.2 (k3 rfl) k9.2
def qt (k:Int)(bv kv:Value)(la:Bool)(o:Int)(dv:Value):Array Value:= #[.int .i64 k,bv,kv,.bool la,.int .i64 o,dv]
def YB (bs kz:List Int):Bool:=decide (kz.length≠0∧(kz.length:Int)≠qo bs 1)
theorem JV (bs kz:List Int):YB bs kz=(((kz.length:Int) != 0)&&((kz.length:Int) != qo bs 1)):=by
 unfold YB;rw[Bool.eq_iff_iff];simp only[decide_eq_true_eq,Bool.and_eq_true,bne_iff_ne,ne_eq];omega
theorem qc0 {big:Bool}{bs kz:List Int}(h:okD big false bs)(hk:YB bs kz=false):kz.length≤mB big:=by
 unfold YB at hk;have h1:=of_decide_eq_false hk;have h2:0≤qo bs 1∧qo bs 1≤(mB big:Nat):=h.2.2.2.2.1;omega
def JF (big:Bool)(bs kz:List Int)(la:Bool)(o:Int)(ds:List Int):List Int:=(zc big (h0Z big bs) (yk (bB big) kz++ds) la).take o.toNat
def qbB (big:Bool)(bs kz:List Int)(la:Bool)(o:Int)(ds:List Int)(w:World)(e:Ending)(w':World):Prop:=
 (∃v,e= .returned (.tuple #[v,.int .i64 0])∧Fresh w.heap.size w' v (JF big bs kz la o ds))∧Below w.heap.size w w'
theorem qfr {big:Bool}{w w':World}{p q:Nat}{hv:Value}{h0 msg:List Int}{c:Array Value}{T:TypeId}{fr:Nat×Nat}(h:QM big w p hv h0 msg)(hb:But q w w')(hq:w.heap[q]? =some (.cells c T fr))(h1:T≠186)(h2:T≠194)(h3:T≠5):QM big w' p hv h0 msg:=by
 refine⟨?_,yW h.2 hb hq h3⟩;rw[hb.block p (Ai h.1).1 ?_];exact h.1;rintro rfl
 have h4:=h.1;rw[hq]at h4;simp only[Option.some.injEq,Obj.cells.injEq]at h4
 cases big
 ·exact h2 h4.2.1
 ·exact h1 h4.2.1
theorem qas {big:Bool}{w:World}{p q:Nat}{hv:Value}{h0 msg:List Int}{c:Array Value}{T:TypeId}{fr:Nat×Nat}(h:QM big w p hv h0 msg)(hq:w.heap[q]? =some (.cells c T fr))(h3:T≠5):hv.ownBlock≠some q:=fun e=>qcS h.2 hq h3 e.symm
theorem qgg (bs kz ds:List Int)(la:Bool)(o:Int)(bv kv dv:Value)(w:World)(hB:Hold w bv bs)(hK:Hold w kv kz)(hD:Hold w dv ds)(hdl:(ds.length:Int)≤140737488355200)(hok:okD true false bs)(hkb0:YB bs kz=false)(ho:1≤o∧o≤64):
  Calls Tryz.prog 36 #[.agg (qt 1 bv kv la o dv)] w fun e w'=>qbB true bs kz la o ds w e w':=by
 obtain⟨b0,hb0⟩:=Ex w.heap.size;obtain⟨ka,kc,rfl,hkc1,hkc2⟩:=hK.slice;have hbA:Below b0 w (w.alloc (.cells #[.int .i64 1,bv,.slice ka kz.length kc,.bool la,.int .i64 o,dv] 54)):=by rw[←hb0];exact Br.alloc Nl _
 have hrA:=Wn w (.cells #[.int .i64 1,bv,.slice ka kz.length kc,.bool la,.int .i64 o,dv] 54);rw[hb0]at hrA;have hBA:=hB.below (hb0▸hbA);have HB:=hid hB;have HK:=hid hK;have HD:=hid hD;have HDL:=hid hdl;have HOK:=hid hok;have HKB:=hid hkb0;have HO:=hid ho;clear hB hK hD hdl hkc1 hkc2 hok hkb0 ho;show Calls _ _ #[.agg #[.int .i64 1,bv,.slice ka kz.length kc,.bool la,.int .i64 o,dv]] _ _
 go_enter Tryz.func36,Tryz.ntmps36
 go_wp2_with fail
 generalize w.alloc (.cells #[.int .i64 1,bv,.slice ka kz.length kc,.bool la,.int .i64 o,dv] 54)=wA at*;refine(qcm true bs bv wA hBA.holds8 hBA.1 (fun a n c e=>by obtain⟨a',c',e',h1,h2⟩:=hBA.slice;rw[e']at e;simp only[Value.slice.injEq]at e;obtain⟨-,rfl,rfl⟩:=e;exact⟨h1,h2⟩) HOK.out).mono ?_;rintro e w1 ⟨⟨fo,dp,lf,ofs,nd,inr,sa,pe,rfl,hsa,hpe⟩,hb1⟩;obtain⟨ky,hky⟩:=Ex (qo bs 1);obtain⟨dg,hdg⟩:=Ex (qo bs 0);rw[hky,hdg];unfold yP;have hr1:=qc hrA hb1;have hs1:=hb1.size;have hb01:b0<wA.heap.size:=(Ai hrA).1;have hbB:Below b0 w w1:=hbA.trans (hb1.mono (by omega));have HR1:=hid hr1;have HBB:=hid hbB;clear hr1 hbB hb1 hbA hrA hBA;go_upto_if 24 with((with_reducible show wpList _ _ _ (Oper.mk none (Op.store 100 _ _) _ _ _ _::_) _ _);refine wpList_store_row rfl 100 _ _ rfl w1.heap.size #[.int .i64 dg,.int .i64 ky,.int .i64 fo,.int .i64 dp,.int .u32 lf,.int .u64 ofs,.int .u32 0,.int .i64 nd,.int .i64 inr,sa,pe] rfl rfl 100 _ (Wn _ _) (by kernel_rfl) rfl (by simp only[List.all_toArray,List.all_cons,List.all_nil,hsa,hpe];rfl) ?_)
 refine qj ?_;intro W hW;obtain⟨p4,hp4⟩:=Ex w1.heap.size;have hr2:W.heap[p4]? =some (.cells #[.int .i64 dg,.int .i64 ky,.int .i64 fo,.int .i64 dp,.int .u32 lf,.int .u64 ofs,.int .u32 0,.int .i64 nd,.int .i64 inr,sa,pe] 100 (0,0)):=by rw[hW,←hp4];exact setRow_heap _ _ _ _ _ _ (Wn _ _)
 have hr3:W.heap[b0]? =some (.cells #[.int .i64 1,bv,.slice ka kz.length kc,.bool la,.int .i64 o,dv] 54 (0,0)):=by rw[hW];exact(setRow_other (w1.alloc _) _ _ _ (by omega)).trans ((Bh _ _ _ (by omega)).trans HR1.out)
 have hbC:Below b0 w W:=by rw[hW];exact below_setRow (HBB.out.alloc (by omega) _) (by omega) _
 rw[hp4];have hp4b:b0<p4:=by omega
 clear hW hp4 HR1 HBB hs1 hb01;have hWs:p4<W.heap.size:=(Ai hr2).1;have hBW:=HB.out.below (hb0▸hbC);have HR3:=hid hr3;have HBC:=hid hbC;have c40:W.cell? ⟨p4,0,none⟩=some (.int .i64 dg):=qa hr2 0;have c41:W.cell? ⟨p4,1,none⟩=some (.int .i64 ky):=qa hr2 1;have c30:W.cell? ⟨b0,0,none⟩=some (.int .i64 1):=qa hr3 0;have c31:W.cell? ⟨b0,1,none⟩=some bv:=qa hr3 1;have c32:W.cell? ⟨b0,2,none⟩=some (.slice ka kz.length kc):=qa hr3 2;have hb0s:b0<W.heap.size:=(Ai hr3).1;obtain⟨q0,hq0⟩: ∃q,((kz.length:Int) != 0)=q:=⟨_,rfl⟩;obtain⟨q1,hq1⟩: ∃q,((kz.length:Int) != ky)=q:=⟨_,rfl⟩;have hqq:(q0&&q1)=false:=by rw[←hq0,←hq1,←hky];exact(JV bs kz).symm.trans HKB.out
 have hkl:kz.length≤64:=qc0 HOK.out HKB.out;clear hr2 hr3 hbC hky hdg hBW;go_upto_region 8 with(fail)
 go_cut [46] from 7 (fun u W'=>u= .bool false∧W=W')
 case first=>
  cases q0<;>cases q1<;>first|(exfalso;cases hqq;done)|skip
  all_goals
   go_wp2
   go_meet
   case rel=>exact⟨rfl,by trivial⟩
 case rest=>
  clear hq0 hq1 c41 hqq;obtain⟨rfl,rfl⟩:=hcut;have hMD:=qfZ bs kz dg bv (.slice ka kz.length kc) W (HB.out.below (hb0▸HBC.out)) (HK.out.below (hb0▸HBC.out)) HOK.out.1 hkl;have HMD:=hid hMD;clear hMD;go_wp2_with fail
  refine HMD.out.mono ?_;rintro e w3 ⟨np,p,hv,bv',kv',rfl,m1,m2,m3,m4,m5,m6⟩;have hq3:=qc HR3.out m6;have hb3:Below b0 w w3:=HBC.out.trans (m6.mono (by omega));have hs3:=m6.size;have c43:w3.cell? ⟨b0,3,none⟩=some (.bool la):=qa hq3 3;have c44:w3.cell? ⟨np,4,none⟩=some (.bool false):=qa m3 4;have f44:=frozen_of_row w3 np 4 _ _ m3;have hb0s3:b0<w3.heap.size:=by omega
  have hnps:np<w3.heap.size:=(Ai m3).1;have hpn:b0<np∧b0<p:=by omega
  obtain⟨hpn1,hpn2⟩:=hpn;have hbut:But np w3 (w3.setCell ⟨np,4,none⟩ (.bool la)):=(But.refl np w3).set 4 _;have hn4:=ji (b:=la) m3;have he4:=qfr m4 hbut m3 (by decide) (by decide) (by decide);have hc4:=(hbut.block b0 hb0s3 (by omega)).trans hq3;have hb4:Below b0 w (w3.setCell ⟨np,4,none⟩ (.bool la)):=hb3.trans (hbut.below (by omega) (by omega));have hpnp:p≠np:=fun e=>by have h1:=m4.1;rw[e,m3]at h1;simp only[cond,Option.some.injEq,Obj.cells.injEq]at h1;exact absurd h1.2.1 (by decide)
  have m5': ∀g,hv.ownBlock=some g→b0<g:=fun g hg=>by have:=m5 g hg;omega
  have HN4:=hid hn4;have HE4:=hid he4;have HC4:=hid hc4;have HB4:=hid hb4;have HM5:=hid m5';have hs4:(w3.setCell ⟨np,4,none⟩ (.bool la)).heap.size=w3.heap.size:=by simp[World.setCell]
  rw[←hs4]at hnps hb0s3;clear hq3 hb3 m1 m2 m3 m4 m5 m5' m6 hbut hn4 he4 hc4 hb4 hs3 hs4 HR3 HBC HMD c30 c31 c32 hb0s c40 hWs;go_upto_region 12 with(fail)
  generalize w3.setCell ⟨np,4,none⟩ (.bool la)=W4 at*;clear c43 c44 f44 w3 W;refine Q6 (fun f W=>W.heap[np]? =some (.cells (yb 1 dg bv' kv' la 0 (.iface 180 (.pointer (some ⟨p,0,none⟩)))) 108 (0,0))∧W.heap[b0]? =some (.cells #[.int .i64 1,bv,.slice ka kz.length kc,.bool la,.int .i64 o,dv] 54 (0,0))∧(f=false→Below W4.heap.size W4 W)∧(f=true→Spare (zp p hv) W4 W∧ ∃hv',QM true W p hv' (h0Z true bs) (yk 128 kz++ds))) 6 [.v 61 (.pointer (some ⟨np,0,none⟩)),.v 62 (.pointer (some ⟨np,0,none⟩)),.v 63 (.pointer (some ⟨np,6,none⟩)),.v 64 (.iface 180 (.pointer (some ⟨p,0,none⟩))),.v 65 (.pointer (some ⟨b0,5,none⟩)),.v 66 dv,.p 67 (fun _ _=>True)] (by exact⟨kW,trivial⟩) ⟨HN4.out,HC4.out,fun _=>Br.drew,fun h=>(by cases h)⟩ (fun f W W' h hb=>⟨qc h.1 hb,qc h.2.1 hb,fun e=>(h.2.2.1 e).trans (hb.mono (h.2.2.1 e).size),fun e=>by obtain⟨h1,hv',h2⟩:=h.2.2.2 e;exact⟨h1.trans (Spare.of_below _ hb) (fun _ _ h=>h),hv',yC h2 hb⟩⟩) ?_ ?_ ?_
  ·repeat' (with_reducible first|exact qx|refine qu ?_ ?_)
   all_goals try
    refine .inr ?_;intro A x W f hA hR hf hdep D K hK;have a6:=hA.2 6 (by decide);conv at a6=>rhs;whnf
    have a1:=hA.2 1 (by decide);conv at a1=>rhs;whnf
    simp only[QU,Q4]at D;clear hdep hA;first
    | go_simp
      exact hK _ _ BR rfl
    | have y0:W.cell? ⟨np,6,none⟩=some (.iface 180 (.pointer (some ⟨p,0,none⟩))):=qa hR.1 6
      have y1:W.cell? ⟨b0,5,none⟩=some dv:=qa hR.2.1 5;go_simp
      exact hK _ _ BR rfl
   any_goals exact .inl rfl
  ·intro A x W hA hR hdep K hK;have g64:=gw hA hdep 3 64;have g66:=gw hA hdep 5 66;clear hdep hA;have hB:=hR.2.2.1 rfl;go_simp
   refine Yd (f:=210) (by kernel_rfl) ?_;go_simp
   have hDW:Hold W dv ds:=HD.out.below (hb0▸HB4.out.trans (hB.mono (by omega)));refine(qaI (h0Z true bs) (yk 128 kz) ds (QK true bs) (YR HK.out.1) p hv dv W (yC HE4.out hB) hDW (fun hne b hb=>⟨fun e=>by have:=Yp HD.out hne hb;omega,fun e=>by have:=Yp HD.out hne hb;have:=HM5.out b e;omega⟩) (by have:=YQ (n:=128) (key:=kz) (by omega);have:=HDL.out;omega)).mono ?_;rintro e w' ⟨rfl,⟨hv',hE', -⟩,hS'⟩
   refine hK _ _ (fun h=>by cases h) ⟨(hS'.block np (Ai hR.1).1 ⟨fun e=>hpnp e.symm,qas (yC HE4.out hB) hR.1 (by decide)⟩).trans hR.1,(hS'.block b0 (Ai hR.2.1).1 ⟨by omega,fun e=>by have:=HM5.out b0 e;omega⟩).trans hR.2.1,fun h=>(by cases h),fun _=>⟨(Spare.of_below _ hB).trans hS' (fun _ _ h=>h),hv',hE'⟩⟩ ⟨.inr (fun _ h=>h),.inr (fun _ h=>h),.inr (fun _ h=>h),.inr (fun _ h=>h),.inr (fun _ h=>h),.inr (fun _ h=>h),.inl rfl,trivial⟩ trivial
  intro x W hR hall;obtain⟨e67, -⟩:=hall;change ((fun _ _=>True)) (x 67) W at e67
  simp only[QD,Act.put,Ls];obtain⟨hn9,hc9, -,h9⟩:=hR;obtain⟨hs9,hv9,hE9⟩:=h9 rfl;have hb9:Below b0 w W:=HB4.out.trans (hs9.below (by omega) (fun k hk=>⟨by omega,fun e=>by have:=HM5.out k e;omega⟩));have c94:W.cell? ⟨b0,4,none⟩=some (.int .i64 o):=qa hc9 4;have hb09:b0<W.heap.size:=(Ai hc9).1;have HN9:=hid hn9;have HE9:=hid hE9;have HB9:=hid hb9;clear hn9 hc9 h9 hs9 hE9 hb9 e67 HN4 HE4 HC4 HB4;go_wp2_with fail
  have ho:=HO.out;obtain⟨m,hm⟩: ∃m:Nat,o=(m:Int):=⟨o.toNat,by omega⟩;have hm1:1≤m∧m≤64:=by omega
  clear ho HO;subst hm;have hlen:(((yk 128 kz)++ds).length:Int)≤281474976710656:=by
   have:=YQ (n:=128) (key:=kz) (by omega)
   have:=HDL.out
   rw[List.length_append];omega
  have hmz: ∀z∈yk 128 kz++ds,0≤z∧z≤255:=fun z hz=>by
   rcases List.mem_append.1 hz with hz|hz
   ·exact YR HK.out.1 z hz
   ·exact HD.out.1 z hz
  refine(qcV (h0Z true bs) (yk 128 kz++ds) (QK true bs) hmz np p m dg 0 la bv' kv' hv9 _ HN9.out HE9.out hlen hm1.1 hm1.2).mono ?_;rintro e w5 ⟨⟨v5,rfl,hf5⟩,hb5⟩;have HF5:=hid (show Fresh w.heap.size w5 v5 (JF true bs kz la (m:Nat) ds) from by have h:=hf5.le (b':=w.heap.size) (by omega);unfold JF;exact h);have HB6:=hid (show Below b0 w w5 from HB9.out.trans (hb5.mono (by omega)));clear hf5 hb5 hlen hmz hm1;go_wp2
  go_ret2
  exact⟨⟨_,rfl,HF5.out⟩,by rw[hb0];exact HB6.out⟩
theorem qe8 (bs kz ds:List Int)(la:Bool)(o:Int)(bv kv dv:Value)(w:World)(hB:Hold w bv bs)(hK:Hold w kv kz)(hD:Hold w dv ds)(hdl:(ds.length:Int)≤140737488355200)(hok:okD false false bs)(hkb0:YB bs kz=false)(ho:1≤o∧o≤32):
  Calls Tryz.prog 36 #[.agg (qt 2 bv kv la o dv)] w fun e w'=>qbB false bs kz la o ds w e w':=by
 obtain⟨b0,hb0⟩:=Ex w.heap.size;obtain⟨ka,kc,rfl,hkc1,hkc2⟩:=hK.slice;have hbA:Below b0 w (w.alloc (.cells #[.int .i64 2,bv,.slice ka kz.length kc,.bool la,.int .i64 o,dv] 54)):=by rw[←hb0];exact Br.alloc Nl _
 have hrA:=Wn w (.cells #[.int .i64 2,bv,.slice ka kz.length kc,.bool la,.int .i64 o,dv] 54);rw[hb0]at hrA;have hBA:=hB.below (hb0▸hbA);have HB:=hid hB;have HK:=hid hK;have HD:=hid hD;have HDL:=hid hdl;have HOK:=hid hok;have HKB:=hid hkb0;have HO:=hid ho;clear hB hK hD hdl hkc1 hkc2 hok hkb0 ho;show Calls _ _ #[.agg #[.int .i64 2,bv,.slice ka kz.length kc,.bool la,.int .i64 o,dv]] _ _
 go_enter Tryz.func36,Tryz.ntmps36
 go_wp2_with fail
 generalize w.alloc (.cells #[.int .i64 2,bv,.slice ka kz.length kc,.bool la,.int .i64 o,dv] 54)=wA at*;refine(qcm false bs bv wA hBA.holds8 hBA.1 (fun a n c e=>by obtain⟨a',c',e',h1,h2⟩:=hBA.slice;rw[e']at e;simp only[Value.slice.injEq]at e;obtain⟨-,rfl,rfl⟩:=e;exact⟨h1,h2⟩) HOK.out).mono ?_;rintro e w1 ⟨⟨fo,dp,lf,ofs,nd,inr,sa,pe,rfl,hsa,hpe⟩,hb1⟩;obtain⟨ky,hky⟩:=Ex (qo bs 1);obtain⟨dg,hdg⟩:=Ex (qo bs 0);rw[hky,hdg];unfold yP;have hr1:=qc hrA hb1;have hs1:=hb1.size;have hb01:b0<wA.heap.size:=(Ai hrA).1;have hbB:Below b0 w w1:=hbA.trans (hb1.mono (by omega));have HR1:=hid hr1;have HBB:=hid hbB;clear hr1 hbB hb1 hbA hrA hBA;go_upto_if 24 with((with_reducible show wpList _ _ _ (Oper.mk none (Op.store 100 _ _) _ _ _ _::_) _ _);refine wpList_store_row rfl 100 _ _ rfl w1.heap.size #[.int .i64 dg,.int .i64 ky,.int .i64 fo,.int .i64 dp,.int .u32 lf,.int .u64 ofs,.int .u32 0,.int .i64 nd,.int .i64 inr,sa,pe] rfl rfl 100 _ (Wn _ _) (by kernel_rfl) rfl (by simp only[List.all_toArray,List.all_cons,List.all_nil,hsa,hpe];rfl) ?_)
 refine qj ?_;intro W hW;obtain⟨p4,hp4⟩:=Ex w1.heap.size;have hr2:W.heap[p4]? =some (.cells #[.int .i64 dg,.int .i64 ky,.int .i64 fo,.int .i64 dp,.int .u32 lf,.int .u64 ofs,.int .u32 0,.int .i64 nd,.int .i64 inr,sa,pe] 100 (0,0)):=by rw[hW,←hp4];exact setRow_heap _ _ _ _ _ _ (Wn _ _)
 have hr3:W.heap[b0]? =some (.cells #[.int .i64 2,bv,.slice ka kz.length kc,.bool la,.int .i64 o,dv] 54 (0,0)):=by rw[hW];exact(setRow_other (w1.alloc _) _ _ _ (by omega)).trans ((Bh _ _ _ (by omega)).trans HR1.out)
 have hbC:Below b0 w W:=by rw[hW];exact below_setRow (HBB.out.alloc (by omega) _) (by omega) _
 rw[hp4];have hp4b:b0<p4:=by omega
 clear hW hp4 HR1 HBB hs1 hb01;have hWs:p4<W.heap.size:=(Ai hr2).1;have hBW:=HB.out.below (hb0▸hbC);have HR3:=hid hr3;have HBC:=hid hbC;have c40:W.cell? ⟨p4,0,none⟩=some (.int .i64 dg):=qa hr2 0;have c41:W.cell? ⟨p4,1,none⟩=some (.int .i64 ky):=qa hr2 1;have c30:W.cell? ⟨b0,0,none⟩=some (.int .i64 2):=qa hr3 0;have c31:W.cell? ⟨b0,1,none⟩=some bv:=qa hr3 1;have c32:W.cell? ⟨b0,2,none⟩=some (.slice ka kz.length kc):=qa hr3 2;have hb0s:b0<W.heap.size:=(Ai hr3).1;obtain⟨q0,hq0⟩: ∃q,((kz.length:Int) != 0)=q:=⟨_,rfl⟩;obtain⟨q1,hq1⟩: ∃q,((kz.length:Int) != ky)=q:=⟨_,rfl⟩;have hqq:(q0&&q1)=false:=by rw[←hq0,←hq1,←hky];exact(JV bs kz).symm.trans HKB.out
 have hkl:kz.length≤32:=qc0 HOK.out HKB.out;clear hr2 hr3 hbC hky hdg hBW;go_upto_region 8 with(fail)
 go_cut [46] from 7 (fun u W'=>u= .bool false∧W=W')
 case first=>
  cases q0<;>cases q1<;>first|(exfalso;cases hqq;done)|skip
  all_goals
   go_wp2
   go_meet
   case rel=>exact⟨rfl,by trivial⟩
 case rest=>
  clear hq0 hq1 c41 hqq;obtain⟨rfl,rfl⟩:=hcut;have hMD:=qeO bs kz dg bv (.slice ka kz.length kc) W (HB.out.below (hb0▸HBC.out)) (HK.out.below (hb0▸HBC.out)) HOK.out.1 hkl;have HMD:=hid hMD;clear hMD;go_wp2_with fail
  refine HMD.out.mono ?_;rintro e w3 ⟨np,p,hv,bv',kv',rfl,m1,m2,m3,m4,m5,m6⟩;have hq3:=qc HR3.out m6;have hb3:Below b0 w w3:=HBC.out.trans (m6.mono (by omega));have hs3:=m6.size;have c43:w3.cell? ⟨b0,3,none⟩=some (.bool la):=qa hq3 3;have c44:w3.cell? ⟨np,4,none⟩=some (.bool false):=qa m3 4;have f44:=frozen_of_row w3 np 4 _ _ m3;have hb0s3:b0<w3.heap.size:=by omega
  have hnps:np<w3.heap.size:=(Ai m3).1;have hpn:b0<np∧b0<p:=by omega
  obtain⟨hpn1,hpn2⟩:=hpn;have hbut:But np w3 (w3.setCell ⟨np,4,none⟩ (.bool la)):=(But.refl np w3).set 4 _;have hn4:=ji (b:=la) m3;have he4:=qfr m4 hbut m3 (by decide) (by decide) (by decide);have hc4:=(hbut.block b0 hb0s3 (by omega)).trans hq3;have hb4:Below b0 w (w3.setCell ⟨np,4,none⟩ (.bool la)):=hb3.trans (hbut.below (by omega) (by omega));have hpnp:p≠np:=fun e=>by have h1:=m4.1;rw[e,m3]at h1;simp only[cond,Option.some.injEq,Obj.cells.injEq]at h1;exact absurd h1.2.1 (by decide)
  have m5': ∀g,hv.ownBlock=some g→b0<g:=fun g hg=>by have:=m5 g hg;omega
  have HN4:=hid hn4;have HE4:=hid he4;have HC4:=hid hc4;have HB4:=hid hb4;have HM5:=hid m5';have hs4:(w3.setCell ⟨np,4,none⟩ (.bool la)).heap.size=w3.heap.size:=by simp[World.setCell]
  rw[←hs4]at hnps hb0s3;clear hq3 hb3 m1 m2 m3 m4 m5 m5' m6 hbut hn4 he4 hc4 hb4 hs3 hs4 HR3 HBC HMD c30 c31 c32 hb0s c40 hWs;go_upto_region 12 with(fail)
  generalize w3.setCell ⟨np,4,none⟩ (.bool la)=W4 at*;clear c43 c44 f44 w3 W;refine Q6 (fun f W=>W.heap[np]? =some (.cells (yb 2 dg bv' kv' la 0 (.iface 190 (.pointer (some ⟨p,0,none⟩)))) 108 (0,0))∧W.heap[b0]? =some (.cells #[.int .i64 2,bv,.slice ka kz.length kc,.bool la,.int .i64 o,dv] 54 (0,0))∧(f=false→Below W4.heap.size W4 W)∧(f=true→Spare (zp p hv) W4 W∧ ∃hv',QM false W p hv' (h0Z false bs) (yk 64 kz++ds))) 6 [.v 61 (.pointer (some ⟨np,0,none⟩)),.v 62 (.pointer (some ⟨np,0,none⟩)),.v 63 (.pointer (some ⟨np,6,none⟩)),.v 64 (.iface 190 (.pointer (some ⟨p,0,none⟩))),.v 65 (.pointer (some ⟨b0,5,none⟩)),.v 66 dv,.p 67 (fun _ _=>True)] (by exact⟨kW,trivial⟩) ⟨HN4.out,HC4.out,fun _=>Br.drew,fun h=>(by cases h)⟩ (fun f W W' h hb=>⟨qc h.1 hb,qc h.2.1 hb,fun e=>(h.2.2.1 e).trans (hb.mono (h.2.2.1 e).size),fun e=>by obtain⟨h1,hv',h2⟩:=h.2.2.2 e;exact⟨h1.trans (Spare.of_below _ hb) (fun _ _ h=>h),hv',yC h2 hb⟩⟩) ?_ ?_ ?_
  ·repeat' (with_reducible first|exact qx|refine qu ?_ ?_)
   all_goals try
    refine .inr ?_;intro A x W f hA hR hf hdep D K hK;have a6:=hA.2 6 (by decide);conv at a6=>rhs;whnf
    have a1:=hA.2 1 (by decide);conv at a1=>rhs;whnf
    simp only[QU,Q4]at D;clear hdep hA;first
    | go_simp
      exact hK _ _ BR rfl
    | have y0:W.cell? ⟨np,6,none⟩=some (.iface 190 (.pointer (some ⟨p,0,none⟩))):=qa hR.1 6
      have y1:W.cell? ⟨b0,5,none⟩=some dv:=qa hR.2.1 5;go_simp
      exact hK _ _ BR rfl
   any_goals exact .inl rfl
  ·intro A x W hA hR hdep K hK;have g64:=gw hA hdep 3 64;have g66:=gw hA hdep 5 66;clear hdep hA;have hB:=hR.2.2.1 rfl;go_simp
   refine Yd (f:=216) (by kernel_rfl) ?_;go_simp
   have hDW:Hold W dv ds:=HD.out.below (hb0▸HB4.out.trans (hB.mono (by omega)));refine(J7 (h0Z false bs) (yk 64 kz) ds (QK false bs) (YR HK.out.1) p hv dv W (yC HE4.out hB) hDW (fun hne b hb=>⟨fun e=>by have:=Yp HD.out hne hb;omega,fun e=>by have:=Yp HD.out hne hb;have:=HM5.out b e;omega⟩) (by have:=YQ (n:=64) (key:=kz) (by omega);have:=HDL.out;omega)).mono ?_;rintro e w' ⟨rfl,⟨hv',hE', -⟩,hS'⟩
   refine hK _ _ (fun h=>by cases h) ⟨(hS'.block np (Ai hR.1).1 ⟨fun e=>hpnp e.symm,qas (yC HE4.out hB) hR.1 (by decide)⟩).trans hR.1,(hS'.block b0 (Ai hR.2.1).1 ⟨by omega,fun e=>by have:=HM5.out b0 e;omega⟩).trans hR.2.1,fun h=>(by cases h),fun _=>⟨(Spare.of_below _ hB).trans hS' (fun _ _ h=>h),hv',hE'⟩⟩ ⟨.inr (fun _ h=>h),.inr (fun _ h=>h),.inr (fun _ h=>h),.inr (fun _ h=>h),.inr (fun _ h=>h),.inr (fun _ h=>h),.inl rfl,trivial⟩ trivial
  intro x W hR hall;obtain⟨e67, -⟩:=hall;change ((fun _ _=>True)) (x 67) W at e67
  simp only[QD,Act.put,Ls];obtain⟨hn9,hc9, -,h9⟩:=hR;obtain⟨hs9,hv9,hE9⟩:=h9 rfl;have hb9:Below b0 w W:=HB4.out.trans (hs9.below (by omega) (fun k hk=>⟨by omega,fun e=>by have:=HM5.out k e;omega⟩));have c94:W.cell? ⟨b0,4,none⟩=some (.int .i64 o):=qa hc9 4;have hb09:b0<W.heap.size:=(Ai hc9).1;have HN9:=hid hn9;have HE9:=hid hE9;have HB9:=hid hb9;clear hn9 hc9 h9 hs9 hE9 hb9 e67 HN4 HE4 HC4 HB4;go_wp2_with fail
  have ho:=HO.out;obtain⟨m,hm⟩: ∃m:Nat,o=(m:Int):=⟨o.toNat,by omega⟩;have hm1:1≤m∧m≤32:=by omega
  clear ho HO;subst hm;have hlen:(((yk 64 kz)++ds).length:Int)≤281474976710656:=by
   have:=YQ (n:=64) (key:=kz) (by omega)
   have:=HDL.out
   rw[List.length_append];omega
  have hmz: ∀z∈yk 64 kz++ds,0≤z∧z≤255:=fun z hz=>by
   rcases List.mem_append.1 hz with hz|hz
   ·exact YR HK.out.1 z hz
   ·exact HD.out.1 z hz
  refine(qbS (h0Z false bs) (yk 64 kz++ds) (QK false bs) hmz np p m dg 0 la bv' kv' hv9 _ HN9.out HE9.out hlen hm1.1 hm1.2).mono ?_;rintro e w5 ⟨⟨v5,rfl,hf5⟩,hb5⟩;have HF5:=hid (show Fresh w.heap.size w5 v5 (JF false bs kz la (m:Nat) ds) from by have h:=hf5.le (b':=w.heap.size) (by omega);unfold JF;exact h);have HB6:=hid (show Below b0 w w5 from HB9.out.trans (hb5.mono (by omega)));clear hf5 hb5 hlen hmz hm1;go_wp2
  go_ret2
  exact⟨⟨_,rfl,HF5.out⟩,by rw[hb0];exact HB6.out⟩
theorem Jl (big:Bool)(dg ky fo dp lf ofs nd inr:Int)(zs1 zs2:List Int)(b1 o1 c1 b2 o2 c2:Nat)(w:World)(h1:Qk w b1 o1 zs1)(h2:Qk w b2 o2 zs2)(hc1:zs1.length≤c1)(hc2:zs2.length≤c2)(hm1:zs1.length≤sB big)(hm2:zs2.length≤sB big)(hP:okP big dg ky fo dp ofs nd inr):
  Calls Tryz.prog 120 #[.int .i64 (kB big),yP dg ky fo dp lf ofs 0 nd inr (.slice (some ⟨b1,o1,none⟩) zs1.length c1) (.slice (some ⟨b2,o2,none⟩) zs2.length c2)] w fun e w'=>(∃sa pe,e= .returned (.tuple #[yP dg ky fo dp lf ofs 0 nd inr sa pe,.int .i64 0])∧w'.ownsRow w.heap.size 5 1 sa (Qd zs1 zs1.length) ((zs1.take (Qd zs1 zs1.length)).map qp)∧w'.ownsRow w.heap.size 5 1 pe (Qd zs2 zs2.length) ((zs2.take (Qd zs2 zs2.length)).map qp))∧Below w.heap.size w w':=by
 obtain⟨b0,hb0⟩:=Ex w.heap.size;have hS:sB big≤16:=by cases big<;>decide
 have H1:=hid h1;have H2:=hid h2;clear h1 h2;have hA1:Below b0 w ((w.alloc (.cells #[.int .i64 dg,.int .i64 ky,.int .i64 fo,.int .i64 dp,.int .u32 lf,.int .u64 ofs,.int .u32 0,.int .i64 nd,.int .i64 inr,.slice (some ⟨b1,o1,none⟩) zs1.length c1,.slice (some ⟨b2,o2,none⟩) zs2.length c2] 100)).alloc (.cells #[.int .i64 0,.int .i64 0,.int .i64 0,.int .i64 0,.int .u32 0,.int .u64 0,.int .u32 0,.int .i64 0,.int .i64 0,.slice none 0 0,.slice none 0 0] 100)):=by rw[←hb0];exact(Br.alloc Nl _).alloc (by simp) _
 have hR0:((w.alloc (.cells #[.int .i64 dg,.int .i64 ky,.int .i64 fo,.int .i64 dp,.int .u32 lf,.int .u64 ofs,.int .u32 0,.int .i64 nd,.int .i64 inr,.slice (some ⟨b1,o1,none⟩) zs1.length c1,.slice (some ⟨b2,o2,none⟩) zs2.length c2] 100)).alloc (.cells #[.int .i64 0,.int .i64 0,.int .i64 0,.int .i64 0,.int .u32 0,.int .u64 0,.int .u32 0,.int .i64 0,.int .i64 0,.slice none 0 0,.slice none 0 0] 100)).heap[b0]? =some (.cells #[.int .i64 dg,.int .i64 ky,.int .i64 fo,.int .i64 dp,.int .u32 lf,.int .u64 ofs,.int .u32 0,.int .i64 nd,.int .i64 inr,.slice (some ⟨b1,o1,none⟩) zs1.length c1,.slice (some ⟨b2,o2,none⟩) zs2.length c2] 100 (0,0)):=(Bh _ _ _ (by simp;omega)).trans (qd _ _ hb0.symm);have hR1:((w.alloc (.cells #[.int .i64 dg,.int .i64 ky,.int .i64 fo,.int .i64 dp,.int .u32 lf,.int .u64 ofs,.int .u32 0,.int .i64 nd,.int .i64 inr,.slice (some ⟨b1,o1,none⟩) zs1.length c1,.slice (some ⟨b2,o2,none⟩) zs2.length c2] 100)).alloc (.cells #[.int .i64 0,.int .i64 0,.int .i64 0,.int .i64 0,.int .u32 0,.int .u64 0,.int .u32 0,.int .i64 0,.int .i64 0,.slice none 0 0,.slice none 0 0] 100)).heap[b0+1]? =some (.cells #[.int .i64 0,.int .i64 0,.int .i64 0,.int .i64 0,.int .u32 0,.int .u64 0,.int .u32 0,.int .i64 0,.int .i64 0,.slice none 0 0,.slice none 0 0] 100 (0,0)):=qd _ _ (by simp;omega);have hsA:((w.alloc (.cells #[.int .i64 dg,.int .i64 ky,.int .i64 fo,.int .i64 dp,.int .u32 lf,.int .u64 ofs,.int .u32 0,.int .i64 nd,.int .i64 inr,.slice (some ⟨b1,o1,none⟩) zs1.length c1,.slice (some ⟨b2,o2,none⟩) zs2.length c2] 100)).alloc (.cells #[.int .i64 0,.int .i64 0,.int .i64 0,.int .i64 0,.int .u32 0,.int .u64 0,.int .u32 0,.int .i64 0,.int .i64 0,.slice none 0 0,.slice none 0 0] 100)).heap.size=b0+2:=by simp;omega
 have HCK:=hid (fun(W:World)=>qag big dg ky fo dp lf ofs nd inr (some ⟨b1,o1,none⟩) (some ⟨b2,o2,none⟩) zs1.length zs2.length c1 c2 W hP hm1 hm2);unfold yP at HCK⊢;clear hP;go_enter Tryz.func120,Tryz.ntmps120
 go_upto_region 1 with(fail)
 generalize ((w.alloc (.cells #[.int .i64 dg,.int .i64 ky,.int .i64 fo,.int .i64 dp,.int .u32 lf,.int .u64 ofs,.int .u32 0,.int .i64 nd,.int .i64 inr,.slice (some ⟨b1,o1,none⟩) zs1.length c1,.slice (some ⟨b2,o2,none⟩) zs2.length c2] 100)).alloc (.cells #[.int .i64 0,.int .i64 0,.int .i64 0,.int .i64 0,.int .u32 0,.int .u64 0,.int .u32 0,.int .i64 0,.int .i64 0,.slice none 0 0,.slice none 0 0] 100))=w1 at*;go_wp2_with ((with_reducible show wpList _ _ _ (Oper.mk _ (Op.load 100 _) _ _ _ _::_) _ _);refine wpList_load_row rfl 100 _ rfl b0 rfl _ _ _ _ hR0 Tryz.underlying100 rfl (by kernel_rfl) ?_)
 refine(HCK.out w1).mono ?_;rintro e w2 ⟨rfl,hb2⟩;clear HCK;have hA2:Below b0 w w2:=hA1.trans (hb2.mono (by omega));have hR0b:=qc hR0 hb2;have hR1b:=qc hR1 hb2;have hs2:=hb2.size;clear hR0 hR1 hb2 hA1;have B1:Qk w2 b1 o1 zs1:=Yg H1.out (by omega) hA2;have B2:Qk w2 b2 o2 zs2:=Yg H2.out (by omega) hA2;have c9:=qa hR0b 9;have kk0:b0<w2.heap.size:=by omega
 go_upto_region 4 with(fail)
 go_wp2_with fail
 refine(jG zs1 b1 o1 c1 _ B1 hc1 (by omega)).mono ?_;rintro r w3 ⟨sa,rfl,own3,hb3⟩;obtain⟨a5,n5,k5,rfl⟩:=qq own3;have hR0c:=qc hR0b hb3;have hR1c:=qc hR1b hb3;have hA3:Below b0 w w3:=hA2.trans (hb3.mono (by omega));have hs3:=hb3.size;have B2c:Qk w3 b2 o2 zs2:=Yg B2 Nl hb3;clear hR0b hR1b hA2 hb3 B1 B2 c9 kk0;have c9:=qa hR0c 9;have f9:=frozen_of_row w3 b0 9 _ _ hR0c;have kk0:b0<w3.heap.size:=by omega
 go_upto_region 5 with(fail)
 have hR0d:(w3.setCell ⟨b0,9,none⟩ (.slice a5 n5 k5)).heap[b0]? =some (.cells #[.int .i64 dg,.int .i64 ky,.int .i64 fo,.int .i64 dp,.int .u32 lf,.int .u64 ofs,.int .u32 0,.int .i64 nd,.int .i64 inr,.slice a5 n5 k5,.slice (some ⟨b2,o2,none⟩) zs2.length c2] 100 (0,0)):=heap_setCell_same w3 b0 9 _ _ _ hR0c;have hR1d:(w3.setCell ⟨b0,9,none⟩ (.slice a5 n5 k5)).heap[b0+1]? =some (.cells #[.int .i64 0,.int .i64 0,.int .i64 0,.int .i64 0,.int .u32 0,.int .u64 0,.int .u32 0,.int .i64 0,.int .i64 0,.slice none 0 0,.slice none 0 0] 100 (0,0)):=(heap_setCell_other w3 _ _ _ (by simp)).trans hR1c;have hA4:Below b0 w (w3.setCell ⟨b0,9,none⟩ (.slice a5 n5 k5)):=hA3.setCell Nl _;have own4:=ownsRow_setCell_below own3 (a:=⟨b0,9,none⟩) (by show b0<_;omega) (.slice a5 n5 k5);have hs4:(w3.setCell ⟨b0,9,none⟩ (.slice a5 n5 k5)).heap.size=w3.heap.size:=by simp[World.setCell]
 have B2d:Qk (w3.setCell ⟨b0,9,none⟩ (.slice a5 n5 k5)) b2 o2 zs2:=Yg H2.out (by omega) hA4;generalize w3.setCell ⟨b0,9,none⟩ (.slice a5 n5 k5)=w4 at*;clear c9 f9 kk0 hR0c hR1c hA3 own3 B2c;have c10:=qa hR0d 10;have kk0:b0<w4.heap.size:=by omega
 go_wp2_with fail
 refine(jG zs2 b2 o2 c2 _ B2d hc2 (by omega)).mono ?_;rintro r w5 ⟨pe,rfl,own5,hb5⟩;obtain⟨a8,n8,k8,rfl⟩:=qq own5;have hR0e:=qc hR0d hb5;have hR1e:=qc hR1d hb5;have hA5:Below b0 w w5:=hA4.trans (hb5.mono (by omega));have own4e:=qf own4 (fun g _ g2=>hb5.block g g2);have hs5:=hb5.size;clear hR0d hR1d hA4 hb5 B2d own4 c10 kk0;have c10:=qa hR0e 10;have f10:=frozen_of_row w5 b0 10 _ _ hR0e;have kk0:b0<w5.heap.size:=by omega
 go_upto_region 6 with(fail)
 have hR0f:(w5.setCell ⟨b0,10,none⟩ (.slice a8 n8 k8)).heap[b0]? =some (.cells #[.int .i64 dg,.int .i64 ky,.int .i64 fo,.int .i64 dp,.int .u32 lf,.int .u64 ofs,.int .u32 0,.int .i64 nd,.int .i64 inr,.slice a5 n5 k5,.slice a8 n8 k8] 100 (0,0)):=heap_setCell_same w5 b0 10 _ _ _ hR0e;have hR1f:(w5.setCell ⟨b0,10,none⟩ (.slice a8 n8 k8)).heap[b0+1]? =some (.cells #[.int .i64 0,.int .i64 0,.int .i64 0,.int .i64 0,.int .u32 0,.int .u64 0,.int .u32 0,.int .i64 0,.int .i64 0,.slice none 0 0,.slice none 0 0] 100 (0,0)):=(heap_setCell_other w5 _ _ _ (by simp)).trans hR1e;have hA6:Below b0 w (w5.setCell ⟨b0,10,none⟩ (.slice a8 n8 k8)):=hA5.setCell Nl _;have own4f:=ownsRow_setCell_below own4e (a:=⟨b0,10,none⟩) (by show b0<_;omega) (.slice a8 n8 k8);have own5f:=ownsRow_setCell_below own5 (a:=⟨b0,10,none⟩) (by show b0<_;omega) (.slice a8 n8 k8);generalize w5.setCell ⟨b0,10,none⟩ (.slice a8 n8 k8)=w6 at*;clear c10 f10 kk0 hR0e hR1e hA5 own4e own5;go_wp2_with (first|((with_reducible show wpList _ _ _ (Oper.mk _ (Op.load 100 _) _ _ _ _::_) _ _);refine wpList_load_row rfl 100 _ rfl b0 rfl _ _ _ _ hR0f Tryz.underlying100 rfl (by kernel_rfl) ?_)|((with_reducible show wpList _ _ _ (Oper.mk _ (Op.store 100 _ _) _ _ _ _::_) _ _);refine wpList_store_row rfl 100 _ _ rfl (b0+1) #[.int .i64 dg,.int .i64 ky,.int .i64 fo,.int .i64 dp,.int .u32 lf,.int .u64 ofs,.int .u32 0,.int .i64 nd,.int .i64 inr,.slice a5 n5 k5,.slice a8 n8 k8] rfl rfl 100 _ hR1f (by kernel_rfl) rfl (by simp[Value.oneCell']) ?_))
 have own': ∀{B:Nat} {v:Value} {n:Nat} {xs:List Value},b0+1<B→w6.ownsRow B 5 1 v n xs→(w6.setRow (b0+1) #[.int .i64 dg,.int .i64 ky,.int .i64 fo,.int .i64 dp,.int .u32 lf,.int .u64 ofs,.int .u32 0,.int .i64 nd,.int .i64 inr,.slice a5 n5 k5,.slice a8 n8 k8]).ownsRow B 5 1 v n xs:=fun hB h=>qf h (fun g g1 _=>setRow_other _ _ _ _ (by omega))
 exact Bp (qB rfl _ _ (b0+1) _ _ _ _ rfl (setRow_heap w6 (b0+1) _ #[.int .i64 dg,.int .i64 ky,.int .i64 fo,.int .i64 dp,.int .u32 lf,.int .u64 ofs,.int .u32 0,.int .i64 nd,.int .i64 inr,.slice a5 n5 k5,.slice a8 n8 k8] _ _ hR1f) Tryz.underlying100 rfl (by kernel_rfl)) rfl ⟨⟨_,_,rfl,ownsRow_le (own' (by omega) own4f) (by omega),ownsRow_le (own' (by omega) own5f) (by omega)⟩,by rw[hb0];exact below_setRow hA6 (by omega) _⟩
end Go.Proofs.YtdndeffmlhaipaaGreat
namespace Go.Proofs.YtdndeffmlhaipaaGreat
open Go.ChangeShapes Go.WideShapes Go.ChangeAt Go.RowKit Go.Joins Go.Shelf Go.Maps
open Go.Lib (hid)
def szE (big ext:Bool)(f:Nat):Nat:=if f=6∧ext=true then 4 else szB big f
theorem QV (big ext:Bool)(f:Nat)(h1:1≤f)(h2:f≤9):1≤szE big ext f∧szE big ext f≤8∧atB big f+szE big ext f≤18∧(big=false→atB big f+szE big ext f≤16):=by
 have h:f=1∨f=2∨f=3∨f=4∨f=5∨f=6∨f=7∨f=8∨f=9:=by omega
 rcases h with rfl|rfl|rfl|rfl|rfl|rfl|rfl|rfl|rfl<;>cases big<;>cases ext<;>decide
def Q0 (big ext:Bool)(zs:List Int)(f:Nat):Int:=if f=0 then 0 else Qb zs (atB big f) (szE big ext f)
def jU (big ext:Bool)(zs:List Int):Nat→List Value
 | 0=>[]
 | k+1=>jU big ext zs k++[.int .u64 (Q0 big ext zs k)]
theorem zC (big ext:Bool)(zs:List Int): ∀k,(jU big ext zs k).length=k
 | 0=>rfl
 | k+1=>by simp[jU,zC big ext zs k]
theorem Qw (big ext:Bool)(zs:List Int): ∀k j,j<k→(jU big ext zs k)[j]? =some (.int .u64 (Q0 big ext zs j))
 | 0,j,h=>by omega
 | k+1,j,h=>by
  rw[jU];by_cases e:j=k
  ·subst e;rw[List.getElem?_append_right (by rw[zC];exact Nat.le_refl _),zC];simp
  ·rw[List.getElem?_append_left (by rw[zC];omega)];exact Qw big ext zs k j (by omega)
theorem qP {big ext:Bool}{zs:List Int}(hz: ∀z∈zs,0≤z∧z≤255)(hl:zs.length=mB big){f:Nat}(h1:1≤f)(h2:f≤9):0≤Q0 big ext zs f∧Q0 big ext zs f<2^(8*szE big ext f):=by
 unfold Q0;rw[if_neg (by omega)];have:=QV big ext f h1 h2
 have hm:32≤mB big:=by cases big<;>decide
 exact QA hz _ (by omega)
theorem YZ (zs:List Int)(a:Nat):Qb zs a 1=qo zs a:=by simp[Qb]
theorem qh2 {W:World}{B:Nat}{v:Value}{xs:List Value}(h:W.ownsRow B 44 1 v 10 xs): ∃g cap cur,v= .slice (some ⟨g,0,none⟩) 10 cap∧B≤g∧W.heap[g]? =some (.cells cur 44 (0,0))∧10≤cur.size∧ ∀j,j<10→cur[j]? =xs[j]? :=by
 rcases h.2 with⟨-,h0⟩|⟨g,cap,cur,rfl,h1,h2,h3,h4,h5,h6⟩
 ·cases h0
 ·refine⟨g,cap,cur,rfl,h1,h2,by omega,fun j hj=>?_⟩;rw[←h6,List.getElem?_take,if_pos (by omega),Array.getElem?_toList]
end Go.Proofs.YtdndeffmlhaipaaGreat
namespace Go.Proofs.YtdndeffmlhaipaaGreat
open Go.ChangeShapes Go.WideShapes Go.ChangeAt Go.RowKit Go.Joins Go.Shelf Go.Maps
open Go.Lib (hid)
attribute [local go_sem] Oper.semAt_some
theorem ZL (zs:List Int)(b off cap:Nat)(w:World)(hB:Qk w b off zs)(hz: ∀z∈zs,0≤z∧z≤255)(hcap:64≤cap)(hcap2:(cap:Int)≤9223372036854775807)(hl:zs.length=64)(hmid: ∀i,18≤i→i<32→qo zs i=0)(hk0:1≤qo zs 0∧qo zs 0≤64)(hk1:qo zs 1≤64)(hk3:1≤qo zs 3)(hk9:qo zs 17≤64):
  Calls Tryz.prog 101 #[.int .i64 1,.slice (some ⟨b,off,none⟩) 64 cap,.bool false] w fun e w'=>(∃sa pe,e= .returned (.tuple #[yP (qo zs 0) (qo zs 1) (qo zs 2) (qo zs 3) (Qb zs 4 4) (Qb zs 8 8) 0 (qo zs 16) (qo zs 17) sa pe,.int .i64 0])∧w'.ownsRow w.heap.size 5 1 sa (Qd ((zs.drop 32).take 16) 16) ((((zs.drop 32).take 16).take (Qd ((zs.drop 32).take 16) 16)).map qp)∧w'.ownsRow w.heap.size 5 1 pe (Qd ((zs.drop 48).take 16) 16) ((((zs.drop 48).take 16).take (Qd ((zs.drop 48).take 16) 16)).map qp))∧Below w.heap.size w w':=by
 obtain⟨h1,h2⟩:=id hB;have HC:=hid h2;have HB:=hid hB;clear h2 hB;obtain⟨i0,hi,hy0,hy1,hy2⟩:=info_parts Jr;obtain⟨V1,hV1⟩:=Ex (Q0 true false zs 1);have hY1:0≤V1∧V1<256:=by have:=qP (big:=true) (ext:=false) hz hl (f:=1) (by omega) (by omega);rw[hV1]at this;simpa [szE,szB] using this
 have hN1:qo zs 0=V1:=by rw[←hV1];simp[Q0,szE,szB,atB,YZ]
 rw[hN1]at hk0;try rw[hN1]
 obtain⟨V2,hV2⟩:=Ex (Q0 true false zs 2);have hY2:0≤V2∧V2<256:=by have:=qP (big:=true) (ext:=false) hz hl (f:=2) (by omega) (by omega);rw[hV2]at this;simpa [szE,szB] using this
 have hN2:qo zs 1=V2:=by rw[←hV2];simp[Q0,szE,szB,atB,YZ]
 rw[hN2]at hk1;try rw[hN2]
 obtain⟨V3,hV3⟩:=Ex (Q0 true false zs 3);have hY3:0≤V3∧V3<256:=by have:=qP (big:=true) (ext:=false) hz hl (f:=3) (by omega) (by omega);rw[hV3]at this;simpa [szE,szB] using this
 have hN3:qo zs 2=V3:=by rw[←hV3];simp[Q0,szE,szB,atB,YZ]
 try rw[hN3]
 obtain⟨V4,hV4⟩:=Ex (Q0 true false zs 4);have hY4:0≤V4∧V4<256:=by have:=qP (big:=true) (ext:=false) hz hl (f:=4) (by omega) (by omega);rw[hV4]at this;simpa [szE,szB] using this
 have hN4:qo zs 3=V4:=by rw[←hV4];simp[Q0,szE,szB,atB,YZ]
 rw[hN4]at hk3;try rw[hN4]
 obtain⟨V5,hV5⟩:=Ex (Q0 true false zs 5);have hY5:0≤V5∧V5<4294967296:=by have:=qP (big:=true) (ext:=false) hz hl (f:=5) (by omega) (by omega);rw[hV5]at this;simpa [szE,szB] using this
 have hN5:Qb zs 4 4=V5:=by rw[←hV5];simp[Q0,szE,szB,atB,YZ]
 try rw[hN5]
 obtain⟨V6,hV6⟩:=Ex (Q0 true false zs 6);have hY6:0≤V6∧V6<18446744073709551616:=by have:=qP (big:=true) (ext:=false) hz hl (f:=6) (by omega) (by omega);rw[hV6]at this;simpa [szE,szB] using this
 have hN6:Qb zs 8 8=V6:=by rw[←hV6];simp[Q0,szE,szB,atB,YZ]
 try rw[hN6]
 obtain⟨V7,hV7⟩:=Ex (Q0 true false zs 7);have hY7:0≤V7∧V7<4294967296:=by have:=qP (big:=true) (ext:=false) hz hl (f:=7) (by omega) (by omega);rw[hV7]at this;simpa [szE,szB] using this
 have hN7:Qb zs 12 4=V7:=by rw[←hV7];simp[Q0,szE,szB,atB,YZ]
 try rw[hN7]
 obtain⟨V8,hV8⟩:=Ex (Q0 true false zs 8);have hY8:0≤V8∧V8<256:=by have:=qP (big:=true) (ext:=false) hz hl (f:=8) (by omega) (by omega);rw[hV8]at this;simpa [szE,szB] using this
 have hN8:qo zs 16=V8:=by rw[←hV8];simp[Q0,szE,szB,atB,YZ]
 try rw[hN8]
 obtain⟨V9,hV9⟩:=Ex (Q0 true false zs 9);have hY9:0≤V9∧V9<256:=by have:=qP (big:=true) (ext:=false) hz hl (f:=9) (by omega) (by omega);rw[hV9]at this;simpa [szE,szB] using this
 have hN9:qo zs 17=V9:=by rw[←hV9];simp[Q0,szE,szB,atB,YZ]
 rw[hN9]at hk9;try rw[hN9]
 have hs: ∀w:World,Calls Tryz.prog 100 #[.int .i64 1] w fun e w'=>e= .returned (.int .i64 64)∧w'=w:=Yc true
 obtain⟨b0,hb0⟩:=Ex w.heap.size;have hbk:b<b0:=by rw[←hb0];exact h1
 have hSL: ∀W,Below b0 w W→Holds8 W (.slice (some ⟨b,off,none⟩) 64 cap) zs:=fun W hW=>⟨some ⟨b,off,none⟩,cap,by rw[hl],.inr ⟨b,off,rfl,Nat.lt_of_lt_of_le h1 hW.size,fun i hi=>(hW.cell (p:=⟨b,off+i,none⟩) hbk).trans (HC.out i hi)⟩⟩
 have HSL:=hid hSL;clear hSL;have hbA:Below b0 w (w.alloc (.cells #[.int .i64 0,.int .i64 0,.int .i64 0,.int .i64 0,.int .u32 0,.int .u64 0,.int .u32 0,.int .i64 0,.int .i64 0,.slice none 0 0,.slice none 0 0] 100)):=by rw[←hb0];exact Br.alloc Nl _
 have hRA:=Wn w (.cells #[.int .i64 0,.int .i64 0,.int .i64 0,.int .i64 0,.int .u32 0,.int .u64 0,.int .u32 0,.int .i64 0,.int .i64 0,.slice none 0 0,.slice none 0 0] 100);rw[hb0]at hRA;have hsA:(w.alloc (.cells #[.int .i64 0,.int .i64 0,.int .i64 0,.int .i64 0,.int .u32 0,.int .u64 0,.int .u32 0,.int .i64 0,.int .i64 0,.slice none 0 0,.slice none 0 0] 100)).heap.size=b0+1:=by simp[hb0]
 go_enter Tryz.func101,Tryz.ntmps101
 go_wp2_with fail
 refine(qb0 true _ _ _ _).mono ?_;rintro e w1 ⟨⟨x,rfl,hx⟩,hw⟩;rw[hw];clear hw;obtain rfl:x=0:=hx.2 rfl;clear hx;generalize w.alloc (.cells #[.int .i64 0,.int .i64 0,.int .i64 0,.int .i64 0,.int .u32 0,.int .u64 0,.int .u32 0,.int .i64 0,.int .i64 0,.slice none 0 0,.slice none 0 0] 100)=w2 at*;have HR:=hid hRA;clear hRA;go_wp2_with fail
 go_loopw [9] (fun i wr=> ∃k:Nat,i= .int .i64 (k:Nat)∧18≤k∧k≤32∧w2=wr) (fun i _=>32 - (intOf i).toNat)
 case atStart=>exact⟨18,rfl,by omega,by omega,rfl⟩
 case round=>
  obtain⟨k,rfl,hk1,hk2,rfl⟩:=hrel;by_cases hlt:k<32
  ·have hc:=(hbA.cell (p:=⟨b,off+k,none⟩) hbk).trans (HC.out k (by omega));rw[hmid k hk1 hlt]at hc;have k3:(k:Int)<64:=by omega
   have k4:0≤(k:Int):=by omega
   go_wp2
   exact⟨⟨k+1,rfl,by omega,by omega,by trivial⟩,by simp[intOf];omega⟩
  ·obtain rfl:k=32:=by omega
   go_wp2_with fail
   have hown0:(w2.alloc (.cells #[.int .u64 0] 44)).ownsRow (b0+1) 44 1 (.slice (some ⟨b0+1,0,none⟩) 1 1) 1 (jU true false zs 1):=by have:=World.ownsRow_lit (base:=b0+1) (e:=44) (size:=1) w2 #[.int .u64 0] 1 (by omega) (by decide) rfl;rwa[hsA]at this
   have hb20:Below (b0+1) w2 (w2.alloc (.cells #[.int .u64 0] 44)):=Br.alloc (by omega) _;go_loopw [10,11] (fun v f wr=> ∃(k:Nat),f= .int .i64 (k:Nat)∧1≤k∧k≤10∧wr.ownsRow (b0+1) 44 1 v k (jU true false zs k)∧Below (b0+1) w2 wr) (fun _ i _=>10 - (intOf i).toNat)
   case atStart=>exact⟨1,rfl,by omega,by omega,hown0,hb20⟩
   case round=>
    clear hown0 hb20;obtain⟨f,rfl,hk1,hk2,hown,hb⟩:=hrel;have hsr:=hb.size;by_cases hlt:f≤9
    ·have hsz:=QV true false f hk1 hlt;have hfv:Q0 true false zs f=Qb zs (atB true f) (szE true false f):=if_neg (by omega);have e1:=hid (show jU true false zs (f+1)=jU true false zs f++[.int .u64 (Qb zs (atB true f) (szE true false f))] by rw[jU,hfv]);have k5:(f:Int)≤9:=by omega
     have HPL:=hid (jp true f ⟨hk1,hlt⟩);obtain⟨at0,hat0⟩:=Ex (atB true f);obtain⟨sz0,hsz0⟩:=Ex (szB true f);obtain⟨sz1,hsz1⟩:=Ex (szE true false f);have HE1:=hid hsz1;have HE0:=hid hsz0;rw[hat0,hsz1]at e1;rw[hat0,hsz0]at HPL;rw[hat0,hsz1]at hsz;clear hfv hat0 hsz0 hsz1;obtain⟨j1,j2,j3,j4⟩:=hsz;have j5:at0+sz1≤zs.length:=by omega
     clear j4;have hbw:Below b0 w wr:=hbA.trans (hb.mono (by omega));by_cases hf6:f=6
     case pos=>
      subst hf6;go_wp2_with fail
      refine(HPL.out _).mono ?_;rintro r w4 ⟨rfl,hw⟩;rw[hw];clear hw;obtain rfl:sz1=sz0:=by rw[←HE1.out,←HE0.out];simp[szE]
      go_wp2_with fail
      refine(Za zs _ at0 sz1 _ (HSL.out _ hbw) hz (by omega) (by omega) (by omega)).mono ?_;rintro r w5 ⟨rfl,hw⟩;rw[hw];clear hw;go_wp2_with (at_builtin;refine wpList_append_own _ rfl _ _ 67 rfl (b0+1) 44 i0 (.int .u64 0) 1 8 Tryz.underlying67 hi hy0 hy1 hy2 rfl (by decide) _ _ _ rfl (hown.alloc _) ⟨wr.heap.size,0,none⟩ 1 1 [.int .u64 (Qb zs at0 sz1)] rfl rfl (cell_one_new _ _ _) (by simp[Value.oneCell']) (by unfold maxLen;omega) (by omega) (by simp;omega) ?_;intro v' w6 hown' hgrow _;have hb3:Below (b0+1) w2 w6:=(hb.alloc (by omega) _).grown hgrow (by simp;omega) (fun k e=>(hown.lt k e).1))
      rw[←e1.out]at hown';refine⟨⟨_,_,_,_,_,_,_,_,_,_,_,_,_,_,_,_,_,_,_,_,_,_,_,_,_,_,⟨7,rfl,by omega,by omega,hown',hb3⟩,rfl⟩,?_⟩;first|(simp[intOf];done)|(simp[intOf];omega)
     case neg=>
      go_wp2_with fail
      refine(HPL.out _).mono ?_;rintro r w4 ⟨rfl,hw⟩;rw[hw];clear hw;obtain rfl:sz1=sz0:=by rw[←HE1.out,←HE0.out];simp[szE,hf6]
      have hf7: ¬((f:Int)=6):=by omega
      have hf8: ¬(f=6):=hf6;go_wp2_with fail
      refine(Za zs _ at0 sz1 _ (HSL.out _ hbw) hz (by omega) (by omega) (by omega)).mono ?_;rintro r w5 ⟨rfl,hw⟩;rw[hw];clear hw;go_wp2_with (at_builtin;refine wpList_append_own _ rfl _ _ 67 rfl (b0+1) 44 i0 (.int .u64 0) 1 8 Tryz.underlying67 hi hy0 hy1 hy2 rfl (by decide) _ _ _ rfl (hown.alloc _) ⟨wr.heap.size,0,none⟩ 1 1 [.int .u64 (Qb zs at0 sz1)] rfl rfl (cell_one_new _ _ _) (by simp[Value.oneCell']) (by unfold maxLen;omega) (by omega) (by simp;omega) ?_;intro v' w6 hown' hgrow _;have hb3:Below (b0+1) w2 w6:=(hb.alloc (by omega) _).grown hgrow (by simp;omega) (fun k e=>(hown.lt k e).1))
      rw[←e1.out]at hown';refine⟨⟨_,_,_,_,_,_,_,_,_,_,_,_,_,_,_,_,_,_,_,_,_,_,_,_,_,_,⟨f+1,rfl,by omega,by omega,hown',hb3⟩,rfl⟩,?_⟩;first|(simp[intOf];done)|(simp[intOf];omega)
    ·obtain rfl:f=10:=by omega
     obtain⟨g,cg,cur,rfl,hg1,hg2,hg3,hg4⟩:=qh2 hown;have HROW:=hid hg2;have hcu1:cur[1]? =some (.int .u64 V1):=by rw[hg4 1 (by omega),Qw _ _ _ _ _ (by omega),hV1]
     have hcu2:cur[2]? =some (.int .u64 V2):=by rw[hg4 2 (by omega),Qw _ _ _ _ _ (by omega),hV2]
     have hcu3:cur[3]? =some (.int .u64 V3):=by rw[hg4 3 (by omega),Qw _ _ _ _ _ (by omega),hV3]
     have hcu4:cur[4]? =some (.int .u64 V4):=by rw[hg4 4 (by omega),Qw _ _ _ _ _ (by omega),hV4]
     have hcu5:cur[5]? =some (.int .u64 V5):=by rw[hg4 5 (by omega),Qw _ _ _ _ _ (by omega),hV5]
     have hcu6:cur[6]? =some (.int .u64 V6):=by rw[hg4 6 (by omega),Qw _ _ _ _ _ (by omega),hV6]
     have hcu7:cur[7]? =some (.int .u64 V7):=by rw[hg4 7 (by omega),Qw _ _ _ _ _ (by omega),hV7]
     have hcu8:cur[8]? =some (.int .u64 V8):=by rw[hg4 8 (by omega),Qw _ _ _ _ _ (by omega),hV8]
     have hcu9:cur[9]? =some (.int .u64 V9):=by rw[hg4 9 (by omega),Qw _ _ _ _ _ (by omega),hV9]
     have hgl:g<wr.heap.size:=(Ai hg2).1;have c7:=(qa hg2 7).trans hcu7;have f7:=frozen_of_row wr g 7 _ _ hg2;have hbz:Below b0 w wr:=hbA.trans (hb.mono (by omega));have hR8:wr.heap[b0]? =some (.cells #[.int .i64 0,.int .i64 0,.int .i64 0,.int .i64 0,.int .u32 0,.int .u64 0,.int .u32 0,.int .i64 0,.int .i64 0,.slice none 0 0,.slice none 0 0] 100 (0,0)):=(hb.block b0 (by omega)).trans HR.out;clear hg4 hown HR hb hlt hk1 hk2 hg2 hsA hbA hV1 hN1 hV2 hN2 hV3 hN3 hV4 hN4 hV5 hN5 hV6 hN6 hV7 hN7 hV8 hN8 hV9 hN9;go_upto_region 21 with(fail)
     have hrow8:=heap_setCell_same wr g 7 _ _ (.int .u64 0) HROW.out;have CV1:=hid ((qa hrow8 1).trans (show(cur.setIfInBounds 7 (.int .u64 0))[1]? =some (.int .u64 (V1)) by rw[Array.getElem?_setIfInBounds];simpa using hcu1));have CV2:=hid ((qa hrow8 2).trans (show(cur.setIfInBounds 7 (.int .u64 0))[2]? =some (.int .u64 (V2)) by rw[Array.getElem?_setIfInBounds];simpa using hcu2));have CV3:=hid ((qa hrow8 3).trans (show(cur.setIfInBounds 7 (.int .u64 0))[3]? =some (.int .u64 (V3)) by rw[Array.getElem?_setIfInBounds];simpa using hcu3));have CV4:=hid ((qa hrow8 4).trans (show(cur.setIfInBounds 7 (.int .u64 0))[4]? =some (.int .u64 (V4)) by rw[Array.getElem?_setIfInBounds];simpa using hcu4));have CV5:=hid ((qa hrow8 5).trans (show(cur.setIfInBounds 7 (.int .u64 0))[5]? =some (.int .u64 (V5)) by rw[Array.getElem?_setIfInBounds];simpa using hcu5));have CV6:=hid ((qa hrow8 6).trans (show(cur.setIfInBounds 7 (.int .u64 0))[6]? =some (.int .u64 (V6)) by rw[Array.getElem?_setIfInBounds];simpa using hcu6));have CV7:=hid ((qa hrow8 7).trans (show(cur.setIfInBounds 7 (.int .u64 0))[7]? =some (.int .u64 (0)) by rw[Array.getElem?_setIfInBounds];simp;omega));have CV8:=hid ((qa hrow8 8).trans (show(cur.setIfInBounds 7 (.int .u64 0))[8]? =some (.int .u64 (V8)) by rw[Array.getElem?_setIfInBounds];simpa using hcu8));have CV9:=hid ((qa hrow8 9).trans (show(cur.setIfInBounds 7 (.int .u64 0))[9]? =some (.int .u64 (V9)) by rw[Array.getElem?_setIfInBounds];simpa using hcu9));have hb8:Below b0 w (wr.setCell ⟨g,7,none⟩ (.int .u64 0)):=hbz.setCell (by show b0≤g;omega) _;have hR9:(wr.setCell ⟨g,7,none⟩ (.int .u64 0)).heap[b0]? =some (.cells #[.int .i64 0,.int .i64 0,.int .i64 0,.int .i64 0,.int .u32 0,.int .u64 0,.int .u32 0,.int .i64 0,.int .i64 0,.slice none 0 0,.slice none 0 0] 100 (0,0)):=(heap_setCell_other wr _ _ _ (by show b0≠g;omega)).trans hR8;have hsz8:(wr.setCell ⟨g,7,none⟩ (.int .u64 0)).heap.size=wr.heap.size:=by simp[World.setCell]
     rw[←hsz8]at hgl hsr;clear hbz HROW hrow8 hsz8 c7 f7 hR8;generalize wr.setCell ⟨g,7,none⟩ (.int .u64 0)=W8 at*;have hR8:=hR9;clear hR9;clear hcu1 hcu2 hcu3 hcu4 hcu5 hcu6 hcu7 hcu8 hcu9 hg3;go_wp2_with fail
     refine(hs _).mono ?_;rintro r w9 ⟨rfl,hw⟩;rw[hw];clear hw;go_upto_region 22 with(fail)
     refine qA (n:=49) (w0:=W8) (B:=W8.heap.size) [.v 72 (.slice (some ⟨g,0,none⟩) 10 cg),.v 73 (.pointer (some ⟨g,1,none⟩)),.v 74 (.int .u64 V1),.v 75 (.int .i64 V1),.v 76 (.slice (some ⟨g,0,none⟩) 10 cg),.v 77 (.pointer (some ⟨g,2,none⟩)),.v 78 (.int .u64 V2),.v 79 (.int .i64 V2),.v 80 (.slice (some ⟨g,0,none⟩) 10 cg),.v 81 (.pointer (some ⟨g,3,none⟩)),.v 82 (.int .u64 V3),.v 83 (.int .i64 V3),.v 84 (.slice (some ⟨g,0,none⟩) 10 cg),.v 85 (.pointer (some ⟨g,4,none⟩)),.v 86 (.int .u64 V4),.v 87 (.int .i64 V4),.v 88 (.slice (some ⟨g,0,none⟩) 10 cg),.v 89 (.pointer (some ⟨g,5,none⟩)),.v 90 (.int .u64 V5),.v 91 (.int .u32 V5),.v 92 (.slice (some ⟨g,0,none⟩) 10 cg),.v 93 (.pointer (some ⟨g,6,none⟩)),.v 94 (.int .u64 V6),.v 95 (.slice (some ⟨g,0,none⟩) 10 cg),.v 96 (.pointer (some ⟨g,7,none⟩)),.v 97 (.int .u64 0),.v 98 (.int .u32 0),.v 99 (.slice (some ⟨g,0,none⟩) 10 cg),.v 100 (.pointer (some ⟨g,8,none⟩)),.v 101 (.int .u64 V8),.v 102 (.int .i64 V8),.v 103 (.slice (some ⟨g,0,none⟩) 10 cg),.v 104 (.pointer (some ⟨g,9,none⟩)),.v 105 (.int .u64 V9),.v 106 (.int .i64 V9),.v 107 (.slice (some ⟨b,off,none⟩) 64 cap),.v 108 (.int .i64 16),.v 109 (.int .i64 32),.v 110 (.int .i64 16),.v 111 (.int .i64 48),.v 112 (.slice (some ⟨b,off+32,none⟩) 16 (cap - 32)),.v 113 (.slice (some ⟨b,off,none⟩) 64 cap),.v 114 (.int .i64 16),.v 115 (.int .i64 48),.v 116 (.int .i64 16),.v 117 (.int .i64 64),.v 118 (.slice (some ⟨b,off+48,none⟩) 16 (cap - 48)),.v 119 (.agg #[.int .i64 V1,.int .i64 V2,.int .i64 V3,.int .i64 V4,.int .u32 V5,.int .u64 V6,.int .u32 0,.int .i64 V8,.int .i64 V9,.slice (some ⟨b,off+32,none⟩) 16 (cap - 32),.slice (some ⟨b,off+48,none⟩) 16 (cap - 48)]),.p 15 (fun u W=> ∃p,u= .pointer (some ⟨p,0,none⟩)∧W8.heap.size≤p∧W.heap[p]? =some (.cells #[.int .i64 0,.int .i64 0,.int .i64 0,.int .i64 0,.int .u32 0,.int .u64 0,.int .u32 0,.int .i64 0,.int .i64 0,.slice none 0 0,.slice none 0 0] 100 (0,0)))] (by exact⟨(fun _ _ _ h hb=>by obtain⟨p,e,h3,h4⟩:=h;exact⟨p,e,h3,qc h4 hb⟩),trivial⟩) Br.drew Nl ?_ ?_
     ·repeat' (with_reducible first|exact qx|refine qu ?_ ?_)
      all_goals try
       intro A x W hA hW hBW hdep D K hK;have a10:=hA.2 10 (by decide);conv at a10=>rhs;whnf
       have a1:=hA.2 1 (by decide);conv at a1=>rhs;whnf
       have a14:=hA.2 14 (by decide);conv at a14=>rhs;whnf
       simp only[QU,Q4]at D;clear hdep hA;first
       | go_simp
         exact hK _ _ BR rfl
       | have y0:=(hW.cell (p:=⟨g,1,none⟩) hgl).trans CV1.out
         have y1:g<W.heap.size:=by omega
         have y2:IntKind.i64.wrap V1=V1:=by rw[IntKind.wrap_i64];omega
         have y3:=(hW.cell (p:=⟨g,2,none⟩) hgl).trans CV2.out;have y4:IntKind.i64.wrap V2=V2:=by rw[IntKind.wrap_i64];omega
         have y5:=(hW.cell (p:=⟨g,3,none⟩) hgl).trans CV3.out;have y6:IntKind.i64.wrap V3=V3:=by rw[IntKind.wrap_i64];omega
         have y7:=(hW.cell (p:=⟨g,4,none⟩) hgl).trans CV4.out;have y8:IntKind.i64.wrap V4=V4:=by rw[IntKind.wrap_i64];omega
         have y9:=(hW.cell (p:=⟨g,5,none⟩) hgl).trans CV5.out;have y10:IntKind.u32.wrap V5=V5:=u32_wrap_id _ (by omega) (by omega);have y11:=(hW.cell (p:=⟨g,6,none⟩) hgl).trans CV6.out;have y12:=(hW.cell (p:=⟨g,7,none⟩) hgl).trans CV7.out;have y13:=(hW.cell (p:=⟨g,8,none⟩) hgl).trans CV8.out;have y14:IntKind.i64.wrap V8=V8:=by rw[IntKind.wrap_i64];omega
         have y15:=(hW.cell (p:=⟨g,9,none⟩) hgl).trans CV9.out;have y16:IntKind.i64.wrap V9=V9:=by rw[IntKind.wrap_i64];omega
         have y17: ¬cap=32:=by omega
         have y18: ¬cap=48:=by omega
         have y19:64≤(cap:Int):=by omega
         have y20:48≤(cap:Int):=by omega
         go_simp
         exact hK _ _ BR rfl
      ·intro A x W hA hW hBW hdep _ K hK;have g75:=gv hA hdep 3 75;have g79:=gv hA hdep 7 79;have g83:=gv hA hdep 11 83;have g87:=gv hA hdep 15 87;have g91:=gv hA hdep 19 91;have g94:=gv hA hdep 22 94;have g98:=gv hA hdep 26 98;have g102:=gv hA hdep 30 102;have g106:=gv hA hdep 34 106;have g112:=gv hA hdep 40 112;have g118:=gv hA hdep 46 118;clear hdep hA;refine zr 100 _ rfl #[.int .i64 V1,.int .i64 V2,.int .i64 V3,.int .i64 V4,.int .u32 V5,.int .u64 V6,.int .u32 0,.int .i64 V8,.int .i64 V9,.slice (some ⟨b,off+32,none⟩) 16 (cap - 32),.slice (some ⟨b,off+48,none⟩) 16 (cap - 48)] ?_ (hK _ _ Br rfl);simp only[List.map_toArray,List.map_cons,List.map_nil,Act.eval,g75,g79,g83,g87,g91,g94,g98,g102,g106,g112,g118];kernel_rfl
      ·intro A x W hA hW hBW hdep _ K hK;clear hdep hA;go_simp
       exact hK _ _ (Br.alloc Nl _) ⟨W.heap.size,rfl,hBW,Wn W _⟩
     intro x W hW hBW hall;obtain⟨e15, -⟩:=hall;change (fun u W=> ∃p,u= .pointer (some ⟨p,0,none⟩)∧W8.heap.size≤p∧W.heap[p]? =some (.cells #[.int .i64 0,.int .i64 0,.int .i64 0,.int .i64 0,.int .u32 0,.int .u64 0,.int .u32 0,.int .i64 0,.int .i64 0,.slice none 0 0,.slice none 0 0] 100 (0,0))) (x 15) W at e15
     obtain⟨p,ep,hp1,hp2⟩:=e15;refine qn ?_;simp only[QD,Act.put,Ls,ep];refine wpList_store_row rfl 100 _ _ rfl p #[.int .i64 V1,.int .i64 V2,.int .i64 V3,.int .i64 V4,.int .u32 V5,.int .u64 V6,.int .u32 0,.int .i64 V8,.int .i64 V9,.slice (some ⟨b,off+32,none⟩) 16 (cap - 32),.slice (some ⟨b,off+48,none⟩) 16 (cap - 48)] rfl rfl 100 _ hp2 (by kernel_rfl) rfl (by simp[Value.oneCell']) ?_;refine qs ?_;have hB3:Below W8.heap.size W8 (W.setRow p #[.int .i64 V1,.int .i64 V2,.int .i64 V3,.int .i64 V4,.int .u32 V5,.int .u64 V6,.int .u32 0,.int .i64 V8,.int .i64 V9,.slice (some ⟨b,off+32,none⟩) 16 (cap - 32),.slice (some ⟨b,off+48,none⟩) 16 (cap - 48)]):=below_setRow hW hp1 _;have hR3:=setRow_heap W p _ #[.int .i64 V1,.int .i64 V2,.int .i64 V3,.int .i64 V4,.int .u32 V5,.int .u64 V6,.int .u32 0,.int .i64 V8,.int .i64 V9,.slice (some ⟨b,off+32,none⟩) 16 (cap - 32),.slice (some ⟨b,off+48,none⟩) 16 (cap - 48)] _ _ hp2;generalize W.setRow p #[.int .i64 V1,.int .i64 V2,.int .i64 V3,.int .i64 V4,.int .u32 V5,.int .u64 V6,.int .u32 0,.int .i64 V8,.int .i64 V9,.slice (some ⟨b,off+32,none⟩) 16 (cap - 32),.slice (some ⟨b,off+48,none⟩) 16 (cap - 48)]=W3 at hB3 hR3⊢;clear ep hp2 hW hBW x W;have hs3:=hB3.size;have hb3:Below b0 w W3:=hb8.trans (hB3.mono (by omega));have hR0:W3.heap[b0]? =some (.cells #[.int .i64 0,.int .i64 0,.int .i64 0,.int .i64 0,.int .u32 0,.int .u64 0,.int .u32 0,.int .i64 0,.int .i64 0,.slice none 0 0,.slice none 0 0] 100 (0,0)):=(hB3.block b0 (by omega)).trans hR8;have hBT:Qk W3 b off zs:=⟨Nat.lt_of_lt_of_le h1 hb3.size,fun i hi=>(hb3.cell (p:=⟨b,off+i,none⟩) hbk).trans (HC.out i hi)⟩;have hNM:=Jl true V1 V2 V3 V4 V5 V6 V8 V9 ((zs.drop 32).take 16) ((zs.drop 48).take 16) b (off+32) (cap - 32) b (off+48) (cap - 48) W3 (YT hBT (by omega)) (YT hBT (by omega)) (by rw[Qp (by omega)];omega) (by rw[Qp (by omega)];omega) (by rw[Qp (by omega)];decide) (by rw[Qp (by omega)];decide) ⟨by simp only[mB,cond];omega,by simp only[mB,cond];omega,by omega,by omega,⟨by omega,fun h=>by cases h⟩,by omega,by simp only[mB,cond];omega⟩;rw[Qp (by omega),Qp (by omega)]at hNM;have HNM:=hid hNM;clear hNM hBT hB3;go_wp2_with ((with_reducible show wpList _ _ _ (Oper.mk _ (Op.load 100 _) _ _ _ _::_) _ _);refine wpList_load_row rfl 100 _ rfl p rfl _ _ _ _ hR3 Tryz.underlying100 rfl (by kernel_rfl) ?_)
     refine HNM.out.mono ?_;rintro r w7 ⟨⟨sa,pe,rfl,os,op⟩,hb7⟩;clear HNM;have hR7:=qc hR0 hb7;have hB7:Below b0 w w7:=hb3.trans (hb7.mono (by omega));obtain⟨a5,n5,k5,rfl⟩:=qq os;obtain⟨a8,n8,k8,rfl⟩:=qq op;unfold yP;go_wp2_with ((with_reducible show wpList _ _ _ (Oper.mk _ (Op.store 100 _ _) _ _ _ _::_) _ _);refine wpList_store_row rfl 100 _ _ rfl b0 #[.int .i64 V1,.int .i64 V2,.int .i64 V3,.int .i64 V4,.int .u32 V5,.int .u64 V6,.int .u32 0,.int .i64 V8,.int .i64 V9,.slice a5 n5 k5,.slice a8 n8 k8] rfl rfl 100 _ hR7 (by kernel_rfl) rfl (by simp[Value.oneCell']) ?_)
     have own': ∀{v:Value} {n:Nat} {xs:List Value},w7.ownsRow W3.heap.size 5 1 v n xs→(w7.setRow b0 #[.int .i64 V1,.int .i64 V2,.int .i64 V3,.int .i64 V4,.int .u32 V5,.int .u64 V6,.int .u32 0,.int .i64 V8,.int .i64 V9,.slice a5 n5 k5,.slice a8 n8 k8]).ownsRow w.heap.size 5 1 v n xs:=fun h=>ownsRow_le (qf h (fun g g1 _=>setRow_other _ _ _ _ (by omega))) (by omega)
     exact Bp (qB rfl _ _ b0 _ _ _ _ rfl (setRow_heap _ b0 _ _ _ _ hR7) Tryz.underlying100 rfl (by kernel_rfl)) rfl ⟨⟨_,_,rfl,own' os,own' op⟩,by rw[hb0];exact below_setRow hB7 Nl _⟩
theorem Zt (zs:List Int)(b off cap:Nat)(w:World)(hB:Qk w b off zs)(hz: ∀z∈zs,0≤z∧z≤255)(hcap:32≤cap)(hcap2:(cap:Int)≤9223372036854775807)(hl:zs.length=32)(hk0:1≤qo zs 0∧qo zs 0≤32)(hk1:qo zs 1≤32)(hk3:1≤qo zs 3)(hk9:qo zs 15≤32):
  Calls Tryz.prog 101 #[.int .i64 2,.slice (some ⟨b,off,none⟩) 32 cap,.bool false] w fun e w'=>(∃sa pe,e= .returned (.tuple #[yP (qo zs 0) (qo zs 1) (qo zs 2) (qo zs 3) (Qb zs 4 4) (Qb zs 8 6) 0 (qo zs 14) (qo zs 15) sa pe,.int .i64 0])∧w'.ownsRow w.heap.size 5 1 sa (Qd ((zs.drop 16).take 8) 8) ((((zs.drop 16).take 8).take (Qd ((zs.drop 16).take 8) 8)).map qp)∧w'.ownsRow w.heap.size 5 1 pe (Qd ((zs.drop 24).take 8) 8) ((((zs.drop 24).take 8).take (Qd ((zs.drop 24).take 8) 8)).map qp))∧Below w.heap.size w w':=by
 obtain⟨h1,h2⟩:=id hB;have HC:=hid h2;have HB:=hid hB;clear h2 hB;obtain⟨i0,hi,hy0,hy1,hy2⟩:=info_parts Jr;obtain⟨V1,hV1⟩:=Ex (Q0 false false zs 1);have hY1:0≤V1∧V1<256:=by have:=qP (big:=false) (ext:=false) hz hl (f:=1) (by omega) (by omega);rw[hV1]at this;simpa [szE,szB] using this
 have hN1:qo zs 0=V1:=by rw[←hV1];simp[Q0,szE,szB,atB,YZ]
 rw[hN1]at hk0;try rw[hN1]
 obtain⟨V2,hV2⟩:=Ex (Q0 false false zs 2);have hY2:0≤V2∧V2<256:=by have:=qP (big:=false) (ext:=false) hz hl (f:=2) (by omega) (by omega);rw[hV2]at this;simpa [szE,szB] using this
 have hN2:qo zs 1=V2:=by rw[←hV2];simp[Q0,szE,szB,atB,YZ]
 rw[hN2]at hk1;try rw[hN2]
 obtain⟨V3,hV3⟩:=Ex (Q0 false false zs 3);have hY3:0≤V3∧V3<256:=by have:=qP (big:=false) (ext:=false) hz hl (f:=3) (by omega) (by omega);rw[hV3]at this;simpa [szE,szB] using this
 have hN3:qo zs 2=V3:=by rw[←hV3];simp[Q0,szE,szB,atB,YZ]
 try rw[hN3]
 obtain⟨V4,hV4⟩:=Ex (Q0 false false zs 4);have hY4:0≤V4∧V4<256:=by have:=qP (big:=false) (ext:=false) hz hl (f:=4) (by omega) (by omega);rw[hV4]at this;simpa [szE,szB] using this
 have hN4:qo zs 3=V4:=by rw[←hV4];simp[Q0,szE,szB,atB,YZ]
 rw[hN4]at hk3;try rw[hN4]
 obtain⟨V5,hV5⟩:=Ex (Q0 false false zs 5);have hY5:0≤V5∧V5<4294967296:=by have:=qP (big:=false) (ext:=false) hz hl (f:=5) (by omega) (by omega);rw[hV5]at this;simpa [szE,szB] using this
 have hN5:Qb zs 4 4=V5:=by rw[←hV5];simp[Q0,szE,szB,atB,YZ]
 try rw[hN5]
 obtain⟨V6,hV6⟩:=Ex (Q0 false false zs 6);have hY6:0≤V6∧V6<281474976710656:=by have:=qP (big:=false) (ext:=false) hz hl (f:=6) (by omega) (by omega);rw[hV6]at this;simpa [szE,szB] using this
 have hN6:Qb zs 8 6=V6:=by rw[←hV6];simp[Q0,szE,szB,atB,YZ]
 try rw[hN6]
 obtain⟨V7,hV7⟩:=Ex (Q0 false false zs 7);have hY7:0≤V7∧V7<65536:=by have:=qP (big:=false) (ext:=false) hz hl (f:=7) (by omega) (by omega);rw[hV7]at this;simpa [szE,szB] using this
 have hN7:Qb zs 12 2=V7:=by rw[←hV7];simp[Q0,szE,szB,atB,YZ]
 try rw[hN7]
 obtain⟨V8,hV8⟩:=Ex (Q0 false false zs 8);have hY8:0≤V8∧V8<256:=by have:=qP (big:=false) (ext:=false) hz hl (f:=8) (by omega) (by omega);rw[hV8]at this;simpa [szE,szB] using this
 have hN8:qo zs 14=V8:=by rw[←hV8];simp[Q0,szE,szB,atB,YZ]
 try rw[hN8]
 obtain⟨V9,hV9⟩:=Ex (Q0 false false zs 9);have hY9:0≤V9∧V9<256:=by have:=qP (big:=false) (ext:=false) hz hl (f:=9) (by omega) (by omega);rw[hV9]at this;simpa [szE,szB] using this
 have hN9:qo zs 15=V9:=by rw[←hV9];simp[Q0,szE,szB,atB,YZ]
 rw[hN9]at hk9;try rw[hN9]
 have hs: ∀w:World,Calls Tryz.prog 100 #[.int .i64 2] w fun e w'=>e= .returned (.int .i64 32)∧w'=w:=Yc false
 obtain⟨b0,hb0⟩:=Ex w.heap.size;have hbk:b<b0:=by rw[←hb0];exact h1
 have hSL: ∀W,Below b0 w W→Holds8 W (.slice (some ⟨b,off,none⟩) 32 cap) zs:=fun W hW=>⟨some ⟨b,off,none⟩,cap,by rw[hl],.inr ⟨b,off,rfl,Nat.lt_of_lt_of_le h1 hW.size,fun i hi=>(hW.cell (p:=⟨b,off+i,none⟩) hbk).trans (HC.out i hi)⟩⟩
 have HSL:=hid hSL;clear hSL;have hbA:Below b0 w (w.alloc (.cells #[.int .i64 0,.int .i64 0,.int .i64 0,.int .i64 0,.int .u32 0,.int .u64 0,.int .u32 0,.int .i64 0,.int .i64 0,.slice none 0 0,.slice none 0 0] 100)):=by rw[←hb0];exact Br.alloc Nl _
 have hRA:=Wn w (.cells #[.int .i64 0,.int .i64 0,.int .i64 0,.int .i64 0,.int .u32 0,.int .u64 0,.int .u32 0,.int .i64 0,.int .i64 0,.slice none 0 0,.slice none 0 0] 100);rw[hb0]at hRA;have hsA:(w.alloc (.cells #[.int .i64 0,.int .i64 0,.int .i64 0,.int .i64 0,.int .u32 0,.int .u64 0,.int .u32 0,.int .i64 0,.int .i64 0,.slice none 0 0,.slice none 0 0] 100)).heap.size=b0+1:=by simp[hb0]
 go_enter Tryz.func101,Tryz.ntmps101
 go_wp2_with fail
 refine(qb0 false _ _ _ _).mono ?_;rintro e w1 ⟨⟨x,rfl,hx⟩,hw⟩;rw[hw];clear hw;obtain rfl:x=0:=hx.2 rfl;clear hx;generalize w.alloc (.cells #[.int .i64 0,.int .i64 0,.int .i64 0,.int .i64 0,.int .u32 0,.int .u64 0,.int .u32 0,.int .i64 0,.int .i64 0,.slice none 0 0,.slice none 0 0] 100)=w2 at*;have HR:=hid hRA;clear hRA;go_wp2_with fail
 go_loopw [9] (fun i wr=>i= .int .i64 18∧w2=wr) (fun _ _=>0)
 case atStart=>exact⟨rfl,rfl⟩
 case round=>
  obtain⟨rfl,rfl⟩:=hrel
  ·skip
   go_wp2_with fail
   have hown0:(w2.alloc (.cells #[.int .u64 0] 44)).ownsRow (b0+1) 44 1 (.slice (some ⟨b0+1,0,none⟩) 1 1) 1 (jU false false zs 1):=by have:=World.ownsRow_lit (base:=b0+1) (e:=44) (size:=1) w2 #[.int .u64 0] 1 (by omega) (by decide) rfl;rwa[hsA]at this
   have hb20:Below (b0+1) w2 (w2.alloc (.cells #[.int .u64 0] 44)):=Br.alloc (by omega) _;go_loopw [10,11] (fun v f wr=> ∃(k:Nat),f= .int .i64 (k:Nat)∧1≤k∧k≤10∧wr.ownsRow (b0+1) 44 1 v k (jU false false zs k)∧Below (b0+1) w2 wr) (fun _ i _=>10 - (intOf i).toNat)
   case atStart=>exact⟨1,rfl,by omega,by omega,hown0,hb20⟩
   case round=>
    clear hown0 hb20;obtain⟨f,rfl,hk1,hk2,hown,hb⟩:=hrel;have hsr:=hb.size;by_cases hlt:f≤9
    ·have hsz:=QV false false f hk1 hlt;have hfv:Q0 false false zs f=Qb zs (atB false f) (szE false false f):=if_neg (by omega);have e1:=hid (show jU false false zs (f+1)=jU false false zs f++[.int .u64 (Qb zs (atB false f) (szE false false f))] by rw[jU,hfv]);have k5:(f:Int)≤9:=by omega
     have HPL:=hid (jp false f ⟨hk1,hlt⟩);obtain⟨at0,hat0⟩:=Ex (atB false f);obtain⟨sz0,hsz0⟩:=Ex (szB false f);obtain⟨sz1,hsz1⟩:=Ex (szE false false f);have HE1:=hid hsz1;have HE0:=hid hsz0;rw[hat0,hsz1]at e1;rw[hat0,hsz0]at HPL;rw[hat0,hsz1]at hsz;clear hfv hat0 hsz0 hsz1;obtain⟨j1,j2,j3,j4⟩:=hsz;have j5:at0+sz1≤zs.length:=by omega
     clear j4;have hbw:Below b0 w wr:=hbA.trans (hb.mono (by omega));by_cases hf6:f=6
     case pos=>
      subst hf6;go_wp2_with fail
      refine(HPL.out _).mono ?_;rintro r w4 ⟨rfl,hw⟩;rw[hw];clear hw;obtain rfl:sz1=sz0:=by rw[←HE1.out,←HE0.out];simp[szE]
      go_wp2_with fail
      refine(Za zs _ at0 sz1 _ (HSL.out _ hbw) hz (by omega) (by omega) (by omega)).mono ?_;rintro r w5 ⟨rfl,hw⟩;rw[hw];clear hw;go_wp2_with (at_builtin;refine wpList_append_own _ rfl _ _ 67 rfl (b0+1) 44 i0 (.int .u64 0) 1 8 Tryz.underlying67 hi hy0 hy1 hy2 rfl (by decide) _ _ _ rfl (hown.alloc _) ⟨wr.heap.size,0,none⟩ 1 1 [.int .u64 (Qb zs at0 sz1)] rfl rfl (cell_one_new _ _ _) (by simp[Value.oneCell']) (by unfold maxLen;omega) (by omega) (by simp;omega) ?_;intro v' w6 hown' hgrow _;have hb3:Below (b0+1) w2 w6:=(hb.alloc (by omega) _).grown hgrow (by simp;omega) (fun k e=>(hown.lt k e).1))
      rw[←e1.out]at hown';refine⟨⟨7,rfl,by omega,by omega,hown',hb3⟩,?_⟩;first|(simp[intOf];done)|(simp[intOf];omega)
     case neg=>
      go_wp2_with fail
      refine(HPL.out _).mono ?_;rintro r w4 ⟨rfl,hw⟩;rw[hw];clear hw;obtain rfl:sz1=sz0:=by rw[←HE1.out,←HE0.out];simp[szE,hf6]
      have hf7: ¬((f:Int)=6):=by omega
      have hf8: ¬(f=6):=hf6;go_wp2_with fail
      refine(Za zs _ at0 sz1 _ (HSL.out _ hbw) hz (by omega) (by omega) (by omega)).mono ?_;rintro r w5 ⟨rfl,hw⟩;rw[hw];clear hw;go_wp2_with (at_builtin;refine wpList_append_own _ rfl _ _ 67 rfl (b0+1) 44 i0 (.int .u64 0) 1 8 Tryz.underlying67 hi hy0 hy1 hy2 rfl (by decide) _ _ _ rfl (hown.alloc _) ⟨wr.heap.size,0,none⟩ 1 1 [.int .u64 (Qb zs at0 sz1)] rfl rfl (cell_one_new _ _ _) (by simp[Value.oneCell']) (by unfold maxLen;omega) (by omega) (by simp;omega) ?_;intro v' w6 hown' hgrow _;have hb3:Below (b0+1) w2 w6:=(hb.alloc (by omega) _).grown hgrow (by simp;omega) (fun k e=>(hown.lt k e).1))
      rw[←e1.out]at hown';refine⟨⟨f+1,rfl,by omega,by omega,hown',hb3⟩,?_⟩;first|(simp[intOf];done)|(simp[intOf];omega)
    ·obtain rfl:f=10:=by omega
     obtain⟨g,cg,cur,rfl,hg1,hg2,hg3,hg4⟩:=qh2 hown;have HROW:=hid hg2;have hcu1:cur[1]? =some (.int .u64 V1):=by rw[hg4 1 (by omega),Qw _ _ _ _ _ (by omega),hV1]
     have hcu2:cur[2]? =some (.int .u64 V2):=by rw[hg4 2 (by omega),Qw _ _ _ _ _ (by omega),hV2]
     have hcu3:cur[3]? =some (.int .u64 V3):=by rw[hg4 3 (by omega),Qw _ _ _ _ _ (by omega),hV3]
     have hcu4:cur[4]? =some (.int .u64 V4):=by rw[hg4 4 (by omega),Qw _ _ _ _ _ (by omega),hV4]
     have hcu5:cur[5]? =some (.int .u64 V5):=by rw[hg4 5 (by omega),Qw _ _ _ _ _ (by omega),hV5]
     have hcu6:cur[6]? =some (.int .u64 V6):=by rw[hg4 6 (by omega),Qw _ _ _ _ _ (by omega),hV6]
     have hcu7:cur[7]? =some (.int .u64 V7):=by rw[hg4 7 (by omega),Qw _ _ _ _ _ (by omega),hV7]
     have hcu8:cur[8]? =some (.int .u64 V8):=by rw[hg4 8 (by omega),Qw _ _ _ _ _ (by omega),hV8]
     have hcu9:cur[9]? =some (.int .u64 V9):=by rw[hg4 9 (by omega),Qw _ _ _ _ _ (by omega),hV9]
     have hgl:g<wr.heap.size:=(Ai hg2).1;have c7:=(qa hg2 7).trans hcu7;have f7:=frozen_of_row wr g 7 _ _ hg2;have hbz:Below b0 w wr:=hbA.trans (hb.mono (by omega));have hR8:wr.heap[b0]? =some (.cells #[.int .i64 0,.int .i64 0,.int .i64 0,.int .i64 0,.int .u32 0,.int .u64 0,.int .u32 0,.int .i64 0,.int .i64 0,.slice none 0 0,.slice none 0 0] 100 (0,0)):=(hb.block b0 (by omega)).trans HR.out;clear hg4 hown HR hb hlt hk1 hk2 hg2 hsA hbA hV1 hN1 hV2 hN2 hV3 hN3 hV4 hN4 hV5 hN5 hV6 hN6 hV7 hN7 hV8 hN8 hV9 hN9;go_upto_region 21 with(fail)
     have hrow8:=heap_setCell_same wr g 7 _ _ (.int .u64 0) HROW.out;have CV1:=hid ((qa hrow8 1).trans (show(cur.setIfInBounds 7 (.int .u64 0))[1]? =some (.int .u64 (V1)) by rw[Array.getElem?_setIfInBounds];simpa using hcu1));have CV2:=hid ((qa hrow8 2).trans (show(cur.setIfInBounds 7 (.int .u64 0))[2]? =some (.int .u64 (V2)) by rw[Array.getElem?_setIfInBounds];simpa using hcu2));have CV3:=hid ((qa hrow8 3).trans (show(cur.setIfInBounds 7 (.int .u64 0))[3]? =some (.int .u64 (V3)) by rw[Array.getElem?_setIfInBounds];simpa using hcu3));have CV4:=hid ((qa hrow8 4).trans (show(cur.setIfInBounds 7 (.int .u64 0))[4]? =some (.int .u64 (V4)) by rw[Array.getElem?_setIfInBounds];simpa using hcu4));have CV5:=hid ((qa hrow8 5).trans (show(cur.setIfInBounds 7 (.int .u64 0))[5]? =some (.int .u64 (V5)) by rw[Array.getElem?_setIfInBounds];simpa using hcu5));have CV6:=hid ((qa hrow8 6).trans (show(cur.setIfInBounds 7 (.int .u64 0))[6]? =some (.int .u64 (V6)) by rw[Array.getElem?_setIfInBounds];simpa using hcu6));have CV7:=hid ((qa hrow8 7).trans (show(cur.setIfInBounds 7 (.int .u64 0))[7]? =some (.int .u64 (0)) by rw[Array.getElem?_setIfInBounds];simp;omega));have CV8:=hid ((qa hrow8 8).trans (show(cur.setIfInBounds 7 (.int .u64 0))[8]? =some (.int .u64 (V8)) by rw[Array.getElem?_setIfInBounds];simpa using hcu8));have CV9:=hid ((qa hrow8 9).trans (show(cur.setIfInBounds 7 (.int .u64 0))[9]? =some (.int .u64 (V9)) by rw[Array.getElem?_setIfInBounds];simpa using hcu9));have hb8:Below b0 w (wr.setCell ⟨g,7,none⟩ (.int .u64 0)):=hbz.setCell (by show b0≤g;omega) _;have hR9:(wr.setCell ⟨g,7,none⟩ (.int .u64 0)).heap[b0]? =some (.cells #[.int .i64 0,.int .i64 0,.int .i64 0,.int .i64 0,.int .u32 0,.int .u64 0,.int .u32 0,.int .i64 0,.int .i64 0,.slice none 0 0,.slice none 0 0] 100 (0,0)):=(heap_setCell_other wr _ _ _ (by show b0≠g;omega)).trans hR8;have hsz8:(wr.setCell ⟨g,7,none⟩ (.int .u64 0)).heap.size=wr.heap.size:=by simp[World.setCell]
     rw[←hsz8]at hgl hsr;clear hbz HROW hrow8 hsz8 c7 f7 hR8;generalize wr.setCell ⟨g,7,none⟩ (.int .u64 0)=W8 at*;have hR8:=hR9;clear hR9;clear hcu1 hcu2 hcu3 hcu4 hcu5 hcu6 hcu7 hcu8 hcu9 hg3;go_wp2_with fail
     refine(hs _).mono ?_;rintro r w9 ⟨rfl,hw⟩;rw[hw];clear hw;go_upto_region 22 with(fail)
     refine qA (n:=49) (w0:=W8) (B:=W8.heap.size) [.v 72 (.slice (some ⟨g,0,none⟩) 10 cg),.v 73 (.pointer (some ⟨g,1,none⟩)),.v 74 (.int .u64 V1),.v 75 (.int .i64 V1),.v 76 (.slice (some ⟨g,0,none⟩) 10 cg),.v 77 (.pointer (some ⟨g,2,none⟩)),.v 78 (.int .u64 V2),.v 79 (.int .i64 V2),.v 80 (.slice (some ⟨g,0,none⟩) 10 cg),.v 81 (.pointer (some ⟨g,3,none⟩)),.v 82 (.int .u64 V3),.v 83 (.int .i64 V3),.v 84 (.slice (some ⟨g,0,none⟩) 10 cg),.v 85 (.pointer (some ⟨g,4,none⟩)),.v 86 (.int .u64 V4),.v 87 (.int .i64 V4),.v 88 (.slice (some ⟨g,0,none⟩) 10 cg),.v 89 (.pointer (some ⟨g,5,none⟩)),.v 90 (.int .u64 V5),.v 91 (.int .u32 V5),.v 92 (.slice (some ⟨g,0,none⟩) 10 cg),.v 93 (.pointer (some ⟨g,6,none⟩)),.v 94 (.int .u64 V6),.v 95 (.slice (some ⟨g,0,none⟩) 10 cg),.v 96 (.pointer (some ⟨g,7,none⟩)),.v 97 (.int .u64 0),.v 98 (.int .u32 0),.v 99 (.slice (some ⟨g,0,none⟩) 10 cg),.v 100 (.pointer (some ⟨g,8,none⟩)),.v 101 (.int .u64 V8),.v 102 (.int .i64 V8),.v 103 (.slice (some ⟨g,0,none⟩) 10 cg),.v 104 (.pointer (some ⟨g,9,none⟩)),.v 105 (.int .u64 V9),.v 106 (.int .i64 V9),.v 107 (.slice (some ⟨b,off,none⟩) 32 cap),.v 108 (.int .i64 8),.v 109 (.int .i64 16),.v 110 (.int .i64 8),.v 111 (.int .i64 24),.v 112 (.slice (some ⟨b,off+16,none⟩) 8 (cap - 16)),.v 113 (.slice (some ⟨b,off,none⟩) 32 cap),.v 114 (.int .i64 8),.v 115 (.int .i64 24),.v 116 (.int .i64 8),.v 117 (.int .i64 32),.v 118 (.slice (some ⟨b,off+24,none⟩) 8 (cap - 24)),.v 119 (.agg #[.int .i64 V1,.int .i64 V2,.int .i64 V3,.int .i64 V4,.int .u32 V5,.int .u64 V6,.int .u32 0,.int .i64 V8,.int .i64 V9,.slice (some ⟨b,off+16,none⟩) 8 (cap - 16),.slice (some ⟨b,off+24,none⟩) 8 (cap - 24)]),.p 15 (fun u W=> ∃p,u= .pointer (some ⟨p,0,none⟩)∧W8.heap.size≤p∧W.heap[p]? =some (.cells #[.int .i64 0,.int .i64 0,.int .i64 0,.int .i64 0,.int .u32 0,.int .u64 0,.int .u32 0,.int .i64 0,.int .i64 0,.slice none 0 0,.slice none 0 0] 100 (0,0)))] (by exact⟨(fun _ _ _ h hb=>by obtain⟨p,e,h3,h4⟩:=h;exact⟨p,e,h3,qc h4 hb⟩),trivial⟩) Br.drew Nl ?_ ?_
     ·repeat' (with_reducible first|exact qx|refine qu ?_ ?_)
      all_goals try
       intro A x W hA hW hBW hdep D K hK;have a10:=hA.2 10 (by decide);conv at a10=>rhs;whnf
       have a1:=hA.2 1 (by decide);conv at a1=>rhs;whnf
       have a14:=hA.2 14 (by decide);conv at a14=>rhs;whnf
       simp only[QU,Q4]at D;clear hdep hA;first
       | go_simp
         exact hK _ _ BR rfl
       | have y0:=(hW.cell (p:=⟨g,1,none⟩) hgl).trans CV1.out
         have y1:g<W.heap.size:=by omega
         have y2:IntKind.i64.wrap V1=V1:=by rw[IntKind.wrap_i64];omega
         have y3:=(hW.cell (p:=⟨g,2,none⟩) hgl).trans CV2.out;have y4:IntKind.i64.wrap V2=V2:=by rw[IntKind.wrap_i64];omega
         have y5:=(hW.cell (p:=⟨g,3,none⟩) hgl).trans CV3.out;have y6:IntKind.i64.wrap V3=V3:=by rw[IntKind.wrap_i64];omega
         have y7:=(hW.cell (p:=⟨g,4,none⟩) hgl).trans CV4.out;have y8:IntKind.i64.wrap V4=V4:=by rw[IntKind.wrap_i64];omega
         have y9:=(hW.cell (p:=⟨g,5,none⟩) hgl).trans CV5.out;have y10:IntKind.u32.wrap V5=V5:=u32_wrap_id _ (by omega) (by omega);have y11:=(hW.cell (p:=⟨g,6,none⟩) hgl).trans CV6.out;have y12:=(hW.cell (p:=⟨g,7,none⟩) hgl).trans CV7.out;have y13:=(hW.cell (p:=⟨g,8,none⟩) hgl).trans CV8.out;have y14:IntKind.i64.wrap V8=V8:=by rw[IntKind.wrap_i64];omega
         have y15:=(hW.cell (p:=⟨g,9,none⟩) hgl).trans CV9.out;have y16:IntKind.i64.wrap V9=V9:=by rw[IntKind.wrap_i64];omega
         have y17: ¬cap=16:=by omega
         have y18: ¬cap=24:=by omega
         have y19:32≤(cap:Int):=by omega
         have y20:24≤(cap:Int):=by omega
         go_simp
         exact hK _ _ BR rfl
      ·intro A x W hA hW hBW hdep _ K hK;have g75:=gv hA hdep 3 75;have g79:=gv hA hdep 7 79;have g83:=gv hA hdep 11 83;have g87:=gv hA hdep 15 87;have g91:=gv hA hdep 19 91;have g94:=gv hA hdep 22 94;have g98:=gv hA hdep 26 98;have g102:=gv hA hdep 30 102;have g106:=gv hA hdep 34 106;have g112:=gv hA hdep 40 112;have g118:=gv hA hdep 46 118;clear hdep hA;refine zr 100 _ rfl #[.int .i64 V1,.int .i64 V2,.int .i64 V3,.int .i64 V4,.int .u32 V5,.int .u64 V6,.int .u32 0,.int .i64 V8,.int .i64 V9,.slice (some ⟨b,off+16,none⟩) 8 (cap - 16),.slice (some ⟨b,off+24,none⟩) 8 (cap - 24)] ?_ (hK _ _ Br rfl);simp only[List.map_toArray,List.map_cons,List.map_nil,Act.eval,g75,g79,g83,g87,g91,g94,g98,g102,g106,g112,g118];kernel_rfl
      ·intro A x W hA hW hBW hdep _ K hK;clear hdep hA;go_simp
       exact hK _ _ (Br.alloc Nl _) ⟨W.heap.size,rfl,hBW,Wn W _⟩
     intro x W hW hBW hall;obtain⟨e15, -⟩:=hall;change (fun u W=> ∃p,u= .pointer (some ⟨p,0,none⟩)∧W8.heap.size≤p∧W.heap[p]? =some (.cells #[.int .i64 0,.int .i64 0,.int .i64 0,.int .i64 0,.int .u32 0,.int .u64 0,.int .u32 0,.int .i64 0,.int .i64 0,.slice none 0 0,.slice none 0 0] 100 (0,0))) (x 15) W at e15
     obtain⟨p,ep,hp1,hp2⟩:=e15;refine qn ?_;simp only[QD,Act.put,Ls,ep];refine wpList_store_row rfl 100 _ _ rfl p #[.int .i64 V1,.int .i64 V2,.int .i64 V3,.int .i64 V4,.int .u32 V5,.int .u64 V6,.int .u32 0,.int .i64 V8,.int .i64 V9,.slice (some ⟨b,off+16,none⟩) 8 (cap - 16),.slice (some ⟨b,off+24,none⟩) 8 (cap - 24)] rfl rfl 100 _ hp2 (by kernel_rfl) rfl (by simp[Value.oneCell']) ?_;refine qs ?_;have hB3:Below W8.heap.size W8 (W.setRow p #[.int .i64 V1,.int .i64 V2,.int .i64 V3,.int .i64 V4,.int .u32 V5,.int .u64 V6,.int .u32 0,.int .i64 V8,.int .i64 V9,.slice (some ⟨b,off+16,none⟩) 8 (cap - 16),.slice (some ⟨b,off+24,none⟩) 8 (cap - 24)]):=below_setRow hW hp1 _;have hR3:=setRow_heap W p _ #[.int .i64 V1,.int .i64 V2,.int .i64 V3,.int .i64 V4,.int .u32 V5,.int .u64 V6,.int .u32 0,.int .i64 V8,.int .i64 V9,.slice (some ⟨b,off+16,none⟩) 8 (cap - 16),.slice (some ⟨b,off+24,none⟩) 8 (cap - 24)] _ _ hp2;generalize W.setRow p #[.int .i64 V1,.int .i64 V2,.int .i64 V3,.int .i64 V4,.int .u32 V5,.int .u64 V6,.int .u32 0,.int .i64 V8,.int .i64 V9,.slice (some ⟨b,off+16,none⟩) 8 (cap - 16),.slice (some ⟨b,off+24,none⟩) 8 (cap - 24)]=W3 at hB3 hR3⊢;clear ep hp2 hW hBW x W;have hs3:=hB3.size;have hb3:Below b0 w W3:=hb8.trans (hB3.mono (by omega));have hR0:W3.heap[b0]? =some (.cells #[.int .i64 0,.int .i64 0,.int .i64 0,.int .i64 0,.int .u32 0,.int .u64 0,.int .u32 0,.int .i64 0,.int .i64 0,.slice none 0 0,.slice none 0 0] 100 (0,0)):=(hB3.block b0 (by omega)).trans hR8;have hBT:Qk W3 b off zs:=⟨Nat.lt_of_lt_of_le h1 hb3.size,fun i hi=>(hb3.cell (p:=⟨b,off+i,none⟩) hbk).trans (HC.out i hi)⟩;have hNM:=Jl false V1 V2 V3 V4 V5 V6 V8 V9 ((zs.drop 16).take 8) ((zs.drop 24).take 8) b (off+16) (cap - 16) b (off+24) (cap - 24) W3 (YT hBT (by omega)) (YT hBT (by omega)) (by rw[Qp (by omega)];omega) (by rw[Qp (by omega)];omega) (by rw[Qp (by omega)];decide) (by rw[Qp (by omega)];decide) ⟨by simp only[mB,cond];omega,by simp only[mB,cond];omega,by omega,by omega,⟨by omega,fun h=>by omega⟩,by omega,by simp only[mB,cond];omega⟩;rw[Qp (by omega),Qp (by omega)]at hNM;have HNM:=hid hNM;clear hNM hBT hB3;go_wp2_with ((with_reducible show wpList _ _ _ (Oper.mk _ (Op.load 100 _) _ _ _ _::_) _ _);refine wpList_load_row rfl 100 _ rfl p rfl _ _ _ _ hR3 Tryz.underlying100 rfl (by kernel_rfl) ?_)
     refine HNM.out.mono ?_;rintro r w7 ⟨⟨sa,pe,rfl,os,op⟩,hb7⟩;clear HNM;have hR7:=qc hR0 hb7;have hB7:Below b0 w w7:=hb3.trans (hb7.mono (by omega));obtain⟨a5,n5,k5,rfl⟩:=qq os;obtain⟨a8,n8,k8,rfl⟩:=qq op;unfold yP;go_wp2_with ((with_reducible show wpList _ _ _ (Oper.mk _ (Op.store 100 _ _) _ _ _ _::_) _ _);refine wpList_store_row rfl 100 _ _ rfl b0 #[.int .i64 V1,.int .i64 V2,.int .i64 V3,.int .i64 V4,.int .u32 V5,.int .u64 V6,.int .u32 0,.int .i64 V8,.int .i64 V9,.slice a5 n5 k5,.slice a8 n8 k8] rfl rfl 100 _ hR7 (by kernel_rfl) rfl (by simp[Value.oneCell']) ?_)
     have own': ∀{v:Value} {n:Nat} {xs:List Value},w7.ownsRow W3.heap.size 5 1 v n xs→(w7.setRow b0 #[.int .i64 V1,.int .i64 V2,.int .i64 V3,.int .i64 V4,.int .u32 V5,.int .u64 V6,.int .u32 0,.int .i64 V8,.int .i64 V9,.slice a5 n5 k5,.slice a8 n8 k8]).ownsRow w.heap.size 5 1 v n xs:=fun h=>ownsRow_le (qf h (fun g g1 _=>setRow_other _ _ _ _ (by omega))) (by omega)
     exact Bp (qB rfl _ _ b0 _ _ _ _ rfl (setRow_heap _ b0 _ _ _ _ hR7) Tryz.underlying100 rfl (by kernel_rfl)) rfl ⟨⟨_,_,rfl,own' os,own' op⟩,by rw[hb0];exact below_setRow hB7 Nl _⟩
def Qc (b:List Int)(p:Nat)(zs:List Int):List Int:=b.take p++zs++b.drop (p+zs.length)
theorem Qe {b zs:List Int}{p:Nat}(h:p+zs.length≤b.length):(Qc b p zs).length=b.length:=by
 simp[Qc];omega
theorem Ym {b zs:List Int}{p:Nat}(h:p+zs.length≤b.length)(i:Nat):qo (Qc b p zs) i=if p≤i∧i<p+zs.length then qo zs (i - p) else qo b i:=by
 unfold Qc qo;simp only[Lg];have ht:(b.take p).length=p:=by simp;omega
 by_cases h1:i<p
 ·rw[List.append_assoc,List.getElem?_append_left (by omega),List.getElem?_take,if_pos h1,if_neg (by omega)]
 ·by_cases h2:i<p+zs.length
  ·rw[List.append_assoc,List.getElem?_append_right (by omega),ht,List.getElem?_append_left (by omega),if_pos ⟨by omega,h2⟩]
  ·rw[List.getElem?_append_right (by simp;omega),if_neg (by omega),List.getElem?_drop];congr 2
   simp;omega
theorem YM (b:List Int)(p:Nat):Qc b p []=b:=by simp[Qc]
theorem JO {b zs:List Int}{p:Nat}{z:Int}(h:p+zs.length<b.length):Qc b p (zs++[z])=(Qc b p zs).set (p+zs.length) z:=by
 have ht:(b.take p).length=p:=by simp;omega
 have hs:(b.take p++zs).length=p+zs.length:=by simp;omega
 have hd:b.drop (p+zs.length)=b[p+zs.length]::b.drop (p+zs.length+1):=List.drop_eq_getElem_cons h;unfold Qc;rw[hd,List.length_append,List.length_singleton,←Nat.add_assoc,List.set_append_right _ _ (by omega),hs,Nat.sub_self,List.set_cons_zero];simp
def Qt (big x0:Bool)(v:Nat→Nat):Nat→List Int
 | 0=>List.replicate (mB big) 0
 | k+1=>if k+1=7∧x0=true then Qt big x0 v k else Qc (Qt big x0 v k) (atB big (k+1)) (Qa (v (k+1)) (szB big (k+1)))
theorem QH (big x0:Bool)(v:Nat→Nat): ∀k,k≤9→(Qt big x0 v k).length=mB big
 | 0,_=>by simp[Qt]
 | k+1,h=>by
  have ih:=QH big x0 v k (by omega);have hs:=QV big false (k+1) (by omega) (by omega);have e:szE big false (k+1)=szB big (k+1):=by simp[szE]
  rw[e]at hs;have hm:32≤mB big:=by cases big<;>decide
  rw[Qt];split
  ·exact ih
  ·rw[Qe (by rw[qS,ih];omega),ih]
def QT (big:Bool)(v:Nat→Nat)(z1 z2:List Int):List Int:=Qc (Qc (Qt big (v 7==0) v 9) (2*sB big) z1) (3*sB big) z2
theorem yh {big:Bool}{v:Nat→Nat}{z1 z2:List Int}(h1:z1.length≤sB big)(h2:z2.length≤sB big):(QT big v z1 z2).length=mB big:=by
 have e:=QH big (v 7==0) v 9 (by omega);have hm:4*sB big=mB big:=by cases big<;>decide
 unfold QT;rw[Qe (by rw[Qe (by omega)];omega),Qe (by omega),e]
def parN (v:Nat→Nat)(sa pe:Value):Value:=yP (v 1:Nat) (v 2:Nat) (v 3:Nat) (v 4:Nat) (v 5:Nat) (v 6:Nat) (v 7:Nat) (v 8:Nat) (v 9:Nat) sa pe
def RowB (w:World)(g:Nat)(b:List Int):Prop:=w.heap[g]? =some (.cells (b.map qp).toArray 5 (0,0))
theorem RowB.cell {w:World}{g:Nat}{b:List Int}(h:RowB w g b){i:Nat}(hi:i<b.length):w.cell? ⟨g,i,none⟩=some (.int .u8 (qo b i)):=by
 rw[qa h i];simp[qp,qo,Lg,hi]
theorem RowB.set {w:World}{g:Nat}{b:List Int}(h:RowB w g b)(i:Nat)(z:Int):RowB (w.setCell ⟨g,i,none⟩ (.int .u8 z)) g (b.set i z):=by
 have:=heap_setCell_same w g i _ _ (.int .u8 z) h
 unfold RowB;rw[this];simp[qp,List.map_set]
theorem qb5 (b:List Int)(g n c p k:Nat)(hk:k≤8)(hp:p+k≤b.length)(hn:n=b.length)(hc:n≤c)(hc2:n≤65535)(x:Nat)(hx:(x:Int)≤18446744073709551615)(w:World)(h:RowB w g b):
  Calls Tryz.prog 99 #[.slice (some ⟨g,0,none⟩) n c,.int .i64 (p:Nat),.int .i64 (k:Nat),.int .u64 (x:Nat)] w fun e w'=>e= .returned (.tuple #[])∧RowB w' g (Qc b p (Qa x k))∧But g w w':=by
 have hgs:g<w.heap.size:=(Ai h).1;have HR:=hid h;have HN:=hid hn;have hpk:(p:Int)+k≤n:=by omega
 have hnn:(n:Int)≤65535:=by omega
 clear h hn;go_enter Tryz.func99,Tryz.ntmps99
 go_wp2_with fail
 go_loopw [8] (fun i wr=> ∃j:Nat,i= .int .i64 (j:Nat)∧j≤k∧RowB wr g (Qc b p (Qa x j))∧But g w wr) (fun i _=>k - (intOf i).toNat)
 case atStart=>exact⟨0,rfl,Nat.zero_le _,by show RowB w g (Qc b p []);rw[YM];exact HR.out,But.refl _ _⟩
 case round=>
  obtain⟨j,rfl,hj,hrow,hb⟩:=hrel;by_cases hlt:j<k
  ·have hl:(Qc b p (Qa x j)).length=b.length:=Qe (by rw[qS];omega);have hc0:=hrow.cell (i:=p+j) (by have:=HN.out;omega);have hf0:=frozen_of_row wr g (p+j) _ _ hrow;have hg0:g<wr.heap.size:=Nat.lt_of_lt_of_le hgs hb.size;have q:=zJ x j;have hst:=hrow.set (p+j) (byt x j);have e:(Qc b p (Qa x j)).set (p+j) (byt x j)=Qc b p (Qa x (j+1)):=by
    have e1:=JO (b:=b) (zs:=Qa x j) (p:=p) (z:=byt x j) (by rw[qS];omega);rw[qS]at e1;rw[←e1,zI]
   rw[e]at hst;have HST:=hid hst;have HB:=hid hb;generalize qo (Qc b p (Qa x j)) (p+j)=z0 at hc0;have hjk:(j:Int)<k∧(k:Int)≤8∧0≤(j:Int)∧(p:Int)+j<n:=by omega
   obtain⟨q1,q2,q3,q4⟩:=hjk;clear hst e hl hrow hb;go_wp2
   exact⟨⟨j+1,rfl,by omega,HST.out,HB.out.set _ _⟩,by simp[intOf];omega⟩
  ·obtain rfl:j=k:=by omega
   have HB:=hid hb;have HW:=hid hrow;clear hb hrow;go_wp2
   go_end0
   exact⟨rfl,HW.out,HB.out⟩
def Yi (big ext:Bool)(zs:List Int)(f:Nat):Nat:=if f=7∧ext=false then 0 else(Q0 big ext zs f).toNat
def yN (zs:List Int):List Int:=zs.take (Qd zs zs.length)
def Yy (big:Bool)(zs:List Int):List Int:=yN ((zs.drop (2*sB big)).take (sB big))
def YO (big:Bool)(zs:List Int):List Int:=yN ((zs.drop (3*sB big)).take (sB big))
theorem JA {big ext:Bool}{zs:List Int}(hz: ∀z∈zs,0≤z∧z≤255)(hl:zs.length=mB big){f:Nat}(h1:1≤f)(h2:f≤9)(h3: ¬(f=7∧ext=false)):((Yi big ext zs f:Nat):Int)=Qb zs (atB big f) (szE big ext f):=by
 have hb:=qP (big:=big) (ext:=ext) hz hl h1 h2;have e:Q0 big ext zs f=Qb zs (atB big f) (szE big ext f):=if_neg (by omega);unfold Yi;rw[if_neg h3,Int.toNat_of_nonneg hb.1,e]
theorem qdF {big ext:Bool}{zs:List Int}(hz: ∀z∈zs,0≤z∧z≤255)(hl:zs.length=mB big)(sa pe:Value):
  parN (Yi big ext zs) sa pe=yP (qo zs 0) (qo zs 1) (qo zs 2) (qo zs 3) (Qb zs 4 4) (Qb zs 8 (szE big ext 6)) (xoZ big ext zs) (qo zs (atB big 8)) (qo zs (atB big 9)) sa pe:=by
 have h:=fun f h1 h2 h3=>JA (big:=big) (ext:=ext) hz hl (f:=f) h1 h2 h3
 unfold parN;rw[h 1 (by omega) (by omega) (by omega),h 2 (by omega) (by omega) (by omega),h 3 (by omega) (by omega) (by omega),h 4 (by omega) (by omega) (by omega),h 5 (by omega) (by omega) (by omega),h 6 (by omega) (by omega) (by omega),h 8 (by omega) (by omega) (by omega),h 9 (by omega) (by omega) (by omega)];have h7:((Yi big ext zs 7:Nat):Int)=xoZ big ext zs:=by
  cases ext
  ·rfl
  ·rw[h 7 (by omega) (by omega) (by simp)];cases big<;>rfl
 rw[h7]
 cases big<;>cases ext<;>simp[szE,szB,atB,YZ]
theorem qcM (big:Bool)(zs:List Int)(v:Value)(w:World)(h:Hold w v zs)(hok:okD big false zs):
  Calls Tryz.prog 101 #[.int .i64 (kB big),v,.bool false] w fun e w'=>(∃sa pe,e= .returned (.tuple #[parN (Yi big false zs) sa pe,.int .i64 0])∧w'.ownsRow w.heap.size 5 1 sa (Yy big zs).length ((Yy big zs).map qp)∧w'.ownsRow w.heap.size 5 1 pe (YO big zs).length ((YO big zs).map qp))∧Below w.heap.size w w':=by
 obtain⟨a,cap,rfl,hc1,hc2⟩:=h.slice;have hz:=h.1;have h:=h.holds8;obtain⟨hl,hm, -,k0,k1,k3,k9⟩:=hok;obtain⟨a',cap',e,h⟩:=h;simp only[Value.slice.injEq,true_and]at e;obtain⟨rfl,rfl⟩:=e;obtain⟨b,off,rfl,hB⟩:=h.resolve_left (fun e=>by rw[e]at hl;cases big<;>simp[mB]at hl);have hln: ∀p s:Nat,p+s≤zs.length→((zs.drop p).take s).length=s:=fun p s h=>by simp;omega
 have htl: ∀x:List Int,(x.take (Qd x x.length)).length=Qd x x.length:=fun x=>by have:=Zx x x.length;simp;omega
 have hS: ∀(p s:Nat),p+s≤zs.length→(yN ((zs.drop p).take s)).length=Qd ((zs.drop p).take s) s∧yN ((zs.drop p).take s)=((zs.drop p).take s).take (Qd ((zs.drop p).take s) s):=fun p s h=>by
  have e:=hln p s h;unfold yN;rw[htl,e];exact⟨rfl,rfl⟩
 cases big
 ·have hl':zs.length=32:=hl;rw[hl']at hc1⊢;obtain⟨s1,s2⟩:=hS 16 8 (by omega);obtain⟨s3,s4⟩:=hS 24 8 (by omega);refine(Zt zs b off cap w hB hz hc1 hc2 hl' k0 k1.2 (k3 rfl) k9.2).mono ?_;rintro e w' ⟨⟨sa,pe,rfl,o1,o2⟩,hb⟩
  refine⟨⟨sa,pe,congrArg (fun p=>Ending.returned (.tuple #[p,.int .i64 0])) (qdF (big:=false) (ext:=false) hz hl sa pe).symm,?_,?_⟩,hb⟩
  ·show w'.ownsRow _ _ _ sa (yN ((zs.drop 16).take 8)).length ((yN ((zs.drop 16).take 8)).map qp)
   rw[s1,s2];exact o1
  ·show w'.ownsRow _ _ _ pe (yN ((zs.drop 24).take 8)).length ((yN ((zs.drop 24).take 8)).map qp)
   rw[s3,s4];exact o2
 ·have hl':zs.length=64:=hl;rw[hl']at hc1⊢;obtain⟨s1,s2⟩:=hS 32 16 (by omega);obtain⟨s3,s4⟩:=hS 48 16 (by omega);refine(ZL zs b off cap w hB hz hc1 hc2 hl' (hm rfl) k0 k1.2 (k3 rfl) k9.2).mono ?_;rintro e w' ⟨⟨sa,pe,rfl,o1,o2⟩,hb⟩
  refine⟨⟨sa,pe,congrArg (fun p=>Ending.returned (.tuple #[p,.int .i64 0])) (qdF (big:=true) (ext:=false) hz hl sa pe).symm,?_,?_⟩,hb⟩
  ·show w'.ownsRow _ _ _ sa (yN ((zs.drop 32).take 16)).length ((yN ((zs.drop 32).take 16)).map qp)
   rw[s1,s2];exact o1
  ·show w'.ownsRow _ _ _ pe (yN ((zs.drop 48).take 16)).length ((yN ((zs.drop 48).take 16)).map qp)
   rw[s3,s4];exact o2
structure ParOk (big:Bool)(v:Nat→Nat):Prop where
 p:okP big (v 1:Nat) (v 2:Nat) (v 3:Nat) (v 4:Nat) (v 6:Nat) (v 8:Nat) (v 9:Nat)
 lf:v 5<4294967296
 ofs:v 6<18446744073709551616
 x0:v 7=0
theorem Zb {big:Bool}{v:Nat→Nat}(hP:ParOk big v)(a1 a2:Option Addr){l1 l2:Nat}(c1 c2:Nat)(hl1:l1≤sB big)(hl2:l2≤sB big)(w:World):
  Calls Tryz.prog 96 #[.int .i64 (kB big),parN v (.slice a1 l1 c1) (.slice a2 l2 c2)] w fun e w'=>e= .returned (.int .i64 0)∧Below w.heap.size w w':=by
 unfold parN;rw[hP.x0];exact qag big _ _ _ _ _ _ _ _ a1 a2 l1 l2 c1 c2 w hP.p hl1 hl2
def ZF (v:Nat→Nat):Array Value:= #[.int .u64 (v 1:Nat),.int .u64 (v 2:Nat),.int .u64 (v 3:Nat),.int .u64 (v 4:Nat),.int .u64 (v 5:Nat),.int .u64 (v 6:Nat),.int .u64 (v 7:Nat),.int .u64 (v 8:Nat),.int .u64 (v 9:Nat)]
theorem qfh (v:Nat→Nat){k:Nat}(hk:k<9):(ZF v)[k]? =some (.int .u64 (v (k+1):Nat)):=by
 rcases(show k=0∨k=1∨k=2∨k=3∨k=4∨k=5∨k=6∨k=7∨k=8 by omega)with rfl|rfl|rfl|rfl|rfl|rfl|rfl|rfl|rfl<;>rfl
theorem ParOk.le {big:Bool}{v:Nat→Nat}(h:ParOk big v): ∀f,1≤f→f≤9→((v f:Nat):Int)≤18446744073709551615:=by
 obtain⟨⟨h1,h2,h3,h4, -,h5,h6⟩,h7,h8,h9⟩:=h;have hm:mB big≤64:=by cases big<;>decide
 intro f f1 f2;rcases(show f=1∨f=2∨f=3∨f=4∨f=5∨f=6∨f=7∨f=8∨f=9 by omega)with rfl|rfl|rfl|rfl|rfl|rfl|rfl|rfl|rfl<;>omega
theorem Jt {w w':World}{a:Option Addr}{n c:Nat}{zs:List Int}(h:Hold w (.slice a n c) zs)(hb:Below w.heap.size w w'){j:Nat}(hj:j<zs.length): ∃b off,a=some ⟨b,off,none⟩∧b<w'.heap.size∧w'.cell? ⟨b,off+j,none⟩=some (.int .u8 (qo zs j))∧0≤qo zs j∧qo zs j≤255:=by
 have hne:zs≠[]:=fun e=>by rw[e]at hj;simp at hj
 rcases h.2 with⟨h2, -⟩|⟨ad,cap,e, -, -,h3⟩
 ·exact absurd h2 hne
 ·obtain⟨b,off,rfl,h4,h5⟩:=h3.resolve_left hne;simp only[Value.slice.injEq]at e;exact⟨b,off,e.1,Nat.lt_of_lt_of_le h4 hb.size,(hb.cell (p:=⟨b,off+j,none⟩) h4).trans (h5 j hj),(qR h.1 hj).2⟩
theorem Z9 {b zs:List Int}{p j:Nat}(hj:j<zs.length)(h:p+zs.length≤b.length):(Qc b p (zs.take j)).set (p+j) (qo zs j)=Qc b p (zs.take (j+1)):=by
 have e:(zs.take j).length=j:=by simp;omega
 rw[Z7 hj,JO (by omega),e]
theorem ZK (v:Nat→Nat)(z1 z2:List Int)(sa pe:Value)(w:World)(hP:ParOk true v)(h1:Hold w sa z1)(h2:Hold w pe z2)(hl1:z1.length≤16)(hl2:z2.length≤16):
  Calls Tryz.prog 82 #[.int .i64 1,parN v sa pe] w fun e w'=>(∃r,e= .returned (.tuple #[r,.int .i64 0])∧w'.ownsRow w.heap.size 5 1 r 64 ((QT true v z1 z2).map qp))∧Below w.heap.size w w':=by
 obtain⟨a1,c1,rfl,hx1,hx2⟩:=h1.slice;obtain⟨a2,c2,rfl,hx3,hx4⟩:=h2.slice;obtain⟨i0,hi,hz0,hz1,hz2⟩:=info_parts Qq;obtain⟨b0,hb0⟩:=Ex w.heap.size;have HCK:=hid (Zb hP a1 a2 c1 c2 hl1 hl2);have HX0:=hid hP.x0;have HLE:=hid hP.le;have hv5:((v 5:Nat):Int)<4294967296:=by have:=hP.lf;omega
 have hv7:((v 7:Nat):Int)<4294967296:=by have:=hP.x0;omega
 have hvw: ∀f,1≤f→f≤9→IntKind.u64.wrap ((v f:Nat):Int)=((v f:Nat):Int):=fun f f1 f2=>u64_wrap_id _ (by omega) (by have:=HLE.out f f1 f2;omega)
 have ww1:=hvw 1 (by omega) (by omega);have ww2:=hvw 2 (by omega) (by omega);have ww3:=hvw 3 (by omega) (by omega);have ww4:=hvw 4 (by omega) (by omega);have ww5:=hvw 5 (by omega) (by omega);have ww7:=hvw 7 (by omega) (by omega);have ww8:=hvw 8 (by omega) (by omega);have ww9:=hvw 9 (by omega) (by omega);have hbA:Below b0 w (w.alloc (.cells #[.int .i64 (v 1:Nat),.int .i64 (v 2:Nat),.int .i64 (v 3:Nat),.int .i64 (v 4:Nat),.int .u32 (v 5:Nat),.int .u64 (v 6:Nat),.int .u32 (v 7:Nat),.int .i64 (v 8:Nat),.int .i64 (v 9:Nat),.slice a1 z1.length c1,.slice a2 z2.length c2] 100)):=by rw[←hb0];exact Br.alloc Nl _
 have hrA:=Wn w (.cells #[.int .i64 (v 1:Nat),.int .i64 (v 2:Nat),.int .i64 (v 3:Nat),.int .i64 (v 4:Nat),.int .u32 (v 5:Nat),.int .u64 (v 6:Nat),.int .u32 (v 7:Nat),.int .i64 (v 8:Nat),.int .i64 (v 9:Nat),.slice a1 z1.length c1,.slice a2 z2.length c2] 100);rw[hb0]at hrA;have HH1:=hid h1;have HH2:=hid h2;have HHP:=hid hP;clear hP h1 h2 hvw hx1 hx2 hx3 hx4;unfold parN yP;unfold parN yP at HCK;go_enter Tryz.func82,Tryz.ntmps82
 go_upto_region 1 with(fail)
 generalize w.alloc (.cells #[.int .i64 (v 1:Nat),.int .i64 (v 2:Nat),.int .i64 (v 3:Nat),.int .i64 (v 4:Nat),.int .u32 (v 5:Nat),.int .u64 (v 6:Nat),.int .u32 (v 7:Nat),.int .i64 (v 8:Nat),.int .i64 (v 9:Nat),.slice a1 z1.length c1,.slice a2 z2.length c2] 100)=wA at*;go_wp2_with ((with_reducible show wpList _ _ _ (Oper.mk _ (Op.load 100 _) _ _ _ _::_) _ _);refine wpList_load_row rfl 100 _ rfl b0 rfl _ _ _ _ hrA Tryz.underlying100 rfl (by kernel_rfl) ?_)
 refine(HCK.out wA).mono ?_;rintro e w1 ⟨rfl,hb1⟩;have hr1:=qc hrA hb1;have hs1:=hb1.size;have hb0A:b0<wA.heap.size:=(Ai hrA).1;have hb01:b0<w1.heap.size:=by omega
 have hbB:Below b0 w w1:=hbA.trans (hb1.mono (by omega));have d0:w1.cell? ⟨b0,0,none⟩=some (.int .i64 (v 1:Nat)):=qa hr1 0;have d1:w1.cell? ⟨b0,1,none⟩=some (.int .i64 (v 2:Nat)):=qa hr1 1;have d2:w1.cell? ⟨b0,2,none⟩=some (.int .i64 (v 3:Nat)):=qa hr1 2;have d3:w1.cell? ⟨b0,3,none⟩=some (.int .i64 (v 4:Nat)):=qa hr1 3;have d4:w1.cell? ⟨b0,4,none⟩=some (.int .u32 (v 5:Nat)):=qa hr1 4;have d5:w1.cell? ⟨b0,5,none⟩=some (.int .u64 (v 6:Nat)):=qa hr1 5;have d6:w1.cell? ⟨b0,6,none⟩=some (.int .u32 (v 7:Nat)):=qa hr1 6;have d7:w1.cell? ⟨b0,7,none⟩=some (.int .i64 (v 8:Nat)):=qa hr1 7;have d8:w1.cell? ⟨b0,8,none⟩=some (.int .i64 (v 9:Nat)):=qa hr1 8;have HR1:=hid hr1;have HBB:=hid hbB;clear hb1 hbA hrA hr1 hbB hs1 hb0A;go_wp2_with fail
 refine(jT true _).mono ?_;rintro e w2 ⟨rfl,hw⟩;rw[hw];clear hw;rw[show((mB true:Nat):Int)=64 from rfl];have hmk:=fun W:World=>run_make (P:=Tryz.prog) W 24 5 i0 (.int .u8 0) Tryz.underlying24 hi hz0 .i64 .i64 64 64 (by omega) (by omega) (by rw[hz2];omega) (by omega)
 simp only[hz1]at hmk;go_wp2_with fail
 obtain⟨g,hg⟩:=Ex w1.heap.size;have hmc:madeCells #[.int .u8 0] 64=((List.replicate 64 (0:Int)).map qp).toArray:=by
  apply Array.toList_inj.1
  rw[toList_madeCells_one];simp[qp]
 have hw5:((w1.alloc (.cells (madeCells #[.int .u8 0] 64) 5)).alloc (.cells (ZF v) 44)).heap.size=g+2:=by simp[hg]
 have hg5:RowB ((w1.alloc (.cells (madeCells #[.int .u8 0] 64) 5)).alloc (.cells (ZF v) 44)) g (Qt true (v 7==0) v 0):=by
  unfold RowB;rw[Bh _ _ _ (by simp[hg]),hmc,←hg];exact Wn _ _
 have hv5':((w1.alloc (.cells (madeCells #[.int .u8 0] 64) 5)).alloc (.cells (ZF v) 44)).heap[g+1]? =some (.cells (ZF v) 44 (0,0)):=by
  rw[show g+1=(w1.alloc (.cells (madeCells #[.int .u8 0] 64) 5)).heap.size by simp[hg]];exact Wn _ _
 have hr5:((w1.alloc (.cells (madeCells #[.int .u8 0] 64) 5)).alloc (.cells (ZF v) 44)).heap[b0]? =some (.cells #[.int .i64 (v 1:Nat),.int .i64 (v 2:Nat),.int .i64 (v 3:Nat),.int .i64 (v 4:Nat),.int .u32 (v 5:Nat),.int .u64 (v 6:Nat),.int .u32 (v 7:Nat),.int .i64 (v 8:Nat),.int .i64 (v 9:Nat),.slice a1 z1.length c1,.slice a2 z2.length c2] 100 (0,0)):=by
  rw[Bh _ _ _ (by simp;omega),Bh _ _ _ (by omega)];exact HR1.out
 have hb5:Below b0 w ((w1.alloc (.cells (madeCells #[.int .u8 0] 64) 5)).alloc (.cells (ZF v) 44)):=(HBB.out.alloc (by omega) _).alloc (by simp;omega) _;change Code.wp _ _ _ _ ((w1.alloc (.cells (madeCells #[.int .u8 0] 64) 5)).alloc (.cells (ZF v) 44))
 rw[hg];have hgb:b0<g:=by omega
 generalize ((w1.alloc (.cells (madeCells #[.int .u8 0] 64) 5)).alloc (.cells (ZF v) 44))=W5 at*;have HG5:=hid hg5;have HV5R:=hid hv5';have HR5:=hid hr5;have HB5:=hid hb5;clear hg5 hv5' hr5 hb5 hmc hmk HR1 HBB hg d0 d1 d2 d3 d4 d5 d6 d7 d8 ww1 ww2 ww3 ww4 ww5 ww7 ww8 ww9;go_loopw [9] (fun f wr=> ∃n k:Nat,f= .int .i64 (n:Nat)∧n=k+1∧k≤9∧RowB wr g (Qt true (v 7==0) v k)∧But g W5 wr) (fun f _=>10 - (intOf f).toNat)
 case atStart=>exact⟨1,0,rfl,rfl,by omega,HG5.out,But.refl _ _⟩
 case round=>
  obtain⟨n,k,rfl,hnk,hk,hrow,hb⟩:=hrel;have HNK:=hid hnk;have HROW:=hid hrow;have HB:=hid hb;have hgs:g+1<wr.heap.size:=by have:=hb.size;omega
  have c6:wr.cell? ⟨b0,6,none⟩=some (.int .u32 (v 7:Nat)):=qa ((hb.block b0 (by omega) (by omega)).trans HR5.out) 6;have hb0s:b0<wr.heap.size:=by omega
  have hlen:=QH true (v 7==0) v k hk;by_cases hlt:k<9
  case pos=>
   have hn9:(n:Int)≤9:=by omega
   have hn1:1≤(n:Int):=by omega
   have hfk:(n:Int) - 1=(k:Nat):=by omega
   have cv:wr.cell? ⟨g+1,k,none⟩=some (.int .u64 (v (k+1):Nat)):=(qa ((hb.block (g+1) (by omega) (by omega)).trans HV5R.out) k).trans (qfh v hlt);rw[←hnk]at cv;have hk9:(k:Int)<9:=by omega
   have HPL:=hid (jp true n ⟨by omega,by omega⟩);have hsz:=QV true false n (by omega) (by omega);rw[show szE true false n=szB true n by simp[szE]]at hsz;have HL:=hid (qb5 (Qt true (v 7==0) v k) g 64 64 (atB true n) (szB true n) (by omega) (by rw[hlen];show _≤64;have:=hsz.2.2.2;omega) (by rw[hlen];rfl) Nl (by decide) (v n) (HLE.out n (by omega) (by omega)) wr hrow);have hstep: ¬(k+1=7∧(v 7==0)=true)→Qt true (v 7==0) v (k+1)=Qc (Qt true (v 7==0) v k) (atB true n) (Qa (v n) (szB true n)):=fun h=>by rw[Qt,if_neg h,hnk]
   have HST:=hid hstep;clear hstep hrow hb hnk hsz hlen;by_cases h7:k=6
   case pos=>
    obtain rfl:n=7:=by have:=HNK.out;omega
    subst h7;clear hfk hk9;have hq:((v 7:Int)==0)=true:=by rw[HX0.out];rfl
    go_wp2
    refine⟨⟨8,7,rfl,rfl,by omega,?_,HB.out⟩,by simp[intOf]⟩;have e:Qt true (v 7==0) v 7=Qt true (v 7==0) v 6:=by rw[Qt,if_pos ⟨rfl,by rw[HX0.out];rfl⟩]
    rw[e];exact HROW.out
   have h8: ¬((n:Int)=7):=by have:=HNK.out;omega
   have h9: ¬(n=7):=by have:=HNK.out;omega
   go_wp2_with fail
   refine(HPL.out _).mono ?_;rintro r w4 ⟨rfl,hw⟩;rw[hw];clear hw;go_wp2_with fail
   refine HL.out.mono ?_;rintro r w4 ⟨rfl,hl1,hl2⟩;have HL1:=hid hl1;have HL2:=hid hl2;clear hl1 hl2 c6 cv;go_wp2
   refine⟨⟨n+1,k+1,rfl,by rw[HNK.out],by omega,by rw[HST.out (fun h=>h7 (by omega))];exact HL1.out,HB.out.trans HL2.out⟩,by simp[intOf];omega⟩
  obtain rfl:k=9:=by omega
  obtain rfl:n=10:=by have:=HNK.out;omega
  clear hlen hrow hb hnk;clear c6 HNK hlt;have hEl:=QH true (v 7==0) v 9 (by omega);have HBL:=hid (show QT true v z1 z2=Qc (Qc (Qt true (v 7==0) v 9) 32 z1) 48 z2 from rfl);generalize Qt true (v 7==0) v 9=E at*;have hEl':E.length=64:=hEl;have HEL:=hid hEl';have HL1:=hid hl1;have HL2:=hid hl2;clear hEl hEl' hk hv5 hv7;go_wp2_with fail
  refine(Yc true _).mono ?_;rintro r w4 ⟨rfl,hw⟩;rw[hw];clear hw;rw[show((mB true:Nat):Int)=64 from rfl];go_wp2_with fail
  have HPL0:=HEL;go_loopw [13] (fun i wr=> ∃j:Nat,i= .int .i64 (j:Nat)∧j≤z1.length∧RowB wr g (Qc E 32 (z1.take j))∧But g W5 wr) (fun i _=>z1.length - (intOf i).toNat)
  case atStart=>exact⟨0,rfl,Nat.zero_le _,by rw[List.take_zero,YM];exact HROW.out,HB.out⟩
  case round=>
   clear HB HROW hgs hb0s;obtain⟨j,rfl,hj,hrow,hb⟩:=hrel;have HROW:=hid hrow;have HB:=hid hb;have hgs:g+1<wr.heap.size:=by have:=hb.size;omega
   have hb0s:b0<wr.heap.size:=by omega
   have hgs0:g<wr.heap.size:=by omega
   have cz:wr.cell? ⟨b0,9,none⟩=some (.slice a1 z1.length c1):=qa ((hb.block b0 (by omega) (by omega)).trans HR5.out) 9;by_cases hlt:j<z1.length
   case pos=>
    obtain⟨bb,of',rfl,q1,q2,q3,q4⟩:=Jt HH1.out (hb0▸HB5.out.trans (hb.below (by omega) (by omega))) hlt;have hst:=hrow.set (32+j) (qo z1 j);rw[Z9 hlt (by have:=HEL.out;have:=HL1.out;omega)]at hst;have HST:=hid hst;have hlen:(Qc E 32 (z1.take j)).length=64:=by rw[Qe (by rw[List.length_take];have:=HPL0.out;have:=HL1.out;have:=HL2.out;omega)];exact HPL0.out
    have co:=hrow.cell (i:=32+j) (by rw[hlen];have:=HL1.out;have:=HL2.out;omega);have fo:=frozen_of_row wr g (32+j) _ _ hrow;generalize qo (Qc E 32 (z1.take j)) (32+j)=zo at co;generalize qo z1 j=zj at*;have hjs:(j:Int)<16:=by have:=HL1.out;have:=HL2.out;omega
    clear hst hlen hrow hb;go_wp2
    exact⟨⟨j+1,rfl,by omega,HST.out,HB.out.set _ _⟩,by simp[intOf];omega⟩
   obtain rfl:j=z1.length:=by omega
   rw[List.take_length]at HROW;clear hrow hb;clear hj hlt HPL0;have HPL0:=hid (show(Qc E 32 z1).length=64 from by rw[Qe (by have:=HEL.out;have:=HL1.out;omega)];exact HEL.out);go_wp2_with fail
   clear cz hgs0;go_loopw [14] (fun i wr=> ∃j:Nat,i= .int .i64 (j:Nat)∧j≤z2.length∧RowB wr g (Qc (Qc E 32 z1) 48 (z2.take j))∧But g W5 wr) (fun i _=>z2.length - (intOf i).toNat)
   case atStart=>exact⟨0,rfl,Nat.zero_le _,by rw[List.take_zero,YM];exact HROW.out,HB.out⟩
   case round=>
    clear HB HROW hgs hb0s;obtain⟨j,rfl,hj,hrow,hb⟩:=hrel;have HROW:=hid hrow;have HB:=hid hb;have hgs:g+1<wr.heap.size:=by have:=hb.size;omega
    have hb0s:b0<wr.heap.size:=by omega
    have hgs0:g<wr.heap.size:=by omega
    have cz:wr.cell? ⟨b0,10,none⟩=some (.slice a2 z2.length c2):=qa ((hb.block b0 (by omega) (by omega)).trans HR5.out) 10;by_cases hlt:j<z2.length
    case pos=>
     obtain⟨bb,of',rfl,q1,q2,q3,q4⟩:=Jt HH2.out (hb0▸HB5.out.trans (hb.below (by omega) (by omega))) hlt;have hst:=hrow.set (48+j) (qo z2 j);rw[Z9 hlt (by have:=HPL0.out;have:=HL2.out;omega)]at hst;have HST:=hid hst;have hlen:(Qc (Qc E 32 z1) 48 (z2.take j)).length=64:=by rw[Qe (by rw[List.length_take];have:=HPL0.out;have:=HL1.out;have:=HL2.out;omega)];exact HPL0.out
     have co:=hrow.cell (i:=48+j) (by rw[hlen];have:=HL1.out;have:=HL2.out;omega);have fo:=frozen_of_row wr g (48+j) _ _ hrow;generalize qo (Qc (Qc E 32 z1) 48 (z2.take j)) (48+j)=zo at co;generalize qo z2 j=zj at*;have hjs:(j:Int)<16:=by have:=HL1.out;have:=HL2.out;omega
     clear hst hlen hrow hb;go_wp2
     exact⟨⟨j+1,rfl,by omega,HST.out,HB.out.set _ _⟩,by simp[intOf];omega⟩
    obtain rfl:j=z2.length:=by omega
    rw[List.take_length]at HROW;clear hrow hb;clear hj hlt;go_wp2
    go_ret2
    refine⟨⟨_,rfl,?_⟩,by rw[hb0];exact HB5.out.trans (HB.out.below (by omega) (by omega))⟩;have hbl:=yh (big:=true) (v:=v) HL1.out HL2.out;refine⟨by rw[List.length_map,hbl];rfl,.inr ⟨g,64,_,rfl,by omega,HROW.out,Nat.le_refl _,by unfold maxLen;omega,?_,?_⟩⟩
    ·rw[List.size_toArray,List.length_map,←HBL.out,hbl];rfl
    ·rw[←HBL.out];exact List.take_of_length_le (by rw[List.length_map,hbl];decide)
theorem Zn (v:Nat→Nat)(z1 z2:List Int)(sa pe:Value)(w:World)(hP:ParOk false v)(h1:Hold w sa z1)(h2:Hold w pe z2)(hl1:z1.length≤8)(hl2:z2.length≤8):
  Calls Tryz.prog 82 #[.int .i64 2,parN v sa pe] w fun e w'=>(∃r,e= .returned (.tuple #[r,.int .i64 0])∧w'.ownsRow w.heap.size 5 1 r 32 ((QT false v z1 z2).map qp))∧Below w.heap.size w w':=by
 obtain⟨a1,c1,rfl,hx1,hx2⟩:=h1.slice;obtain⟨a2,c2,rfl,hx3,hx4⟩:=h2.slice;obtain⟨i0,hi,hz0,hz1,hz2⟩:=info_parts Qq;obtain⟨b0,hb0⟩:=Ex w.heap.size;have HCK:=hid (Zb hP a1 a2 c1 c2 hl1 hl2);have HX0:=hid hP.x0;have HLE:=hid hP.le;have hv5:((v 5:Nat):Int)<4294967296:=by have:=hP.lf;omega
 have hv7:((v 7:Nat):Int)<4294967296:=by have:=hP.x0;omega
 have hvw: ∀f,1≤f→f≤9→IntKind.u64.wrap ((v f:Nat):Int)=((v f:Nat):Int):=fun f f1 f2=>u64_wrap_id _ (by omega) (by have:=HLE.out f f1 f2;omega)
 have ww1:=hvw 1 (by omega) (by omega);have ww2:=hvw 2 (by omega) (by omega);have ww3:=hvw 3 (by omega) (by omega);have ww4:=hvw 4 (by omega) (by omega);have ww5:=hvw 5 (by omega) (by omega);have ww7:=hvw 7 (by omega) (by omega);have ww8:=hvw 8 (by omega) (by omega);have ww9:=hvw 9 (by omega) (by omega);have hbA:Below b0 w (w.alloc (.cells #[.int .i64 (v 1:Nat),.int .i64 (v 2:Nat),.int .i64 (v 3:Nat),.int .i64 (v 4:Nat),.int .u32 (v 5:Nat),.int .u64 (v 6:Nat),.int .u32 (v 7:Nat),.int .i64 (v 8:Nat),.int .i64 (v 9:Nat),.slice a1 z1.length c1,.slice a2 z2.length c2] 100)):=by rw[←hb0];exact Br.alloc Nl _
 have hrA:=Wn w (.cells #[.int .i64 (v 1:Nat),.int .i64 (v 2:Nat),.int .i64 (v 3:Nat),.int .i64 (v 4:Nat),.int .u32 (v 5:Nat),.int .u64 (v 6:Nat),.int .u32 (v 7:Nat),.int .i64 (v 8:Nat),.int .i64 (v 9:Nat),.slice a1 z1.length c1,.slice a2 z2.length c2] 100);rw[hb0]at hrA;have HH1:=hid h1;have HH2:=hid h2;have HHP:=hid hP;clear hP h1 h2 hvw hx1 hx2 hx3 hx4;unfold parN yP;unfold parN yP at HCK;go_enter Tryz.func82,Tryz.ntmps82
 go_upto_region 1 with(fail)
 generalize w.alloc (.cells #[.int .i64 (v 1:Nat),.int .i64 (v 2:Nat),.int .i64 (v 3:Nat),.int .i64 (v 4:Nat),.int .u32 (v 5:Nat),.int .u64 (v 6:Nat),.int .u32 (v 7:Nat),.int .i64 (v 8:Nat),.int .i64 (v 9:Nat),.slice a1 z1.length c1,.slice a2 z2.length c2] 100)=wA at*;go_wp2_with ((with_reducible show wpList _ _ _ (Oper.mk _ (Op.load 100 _) _ _ _ _::_) _ _);refine wpList_load_row rfl 100 _ rfl b0 rfl _ _ _ _ hrA Tryz.underlying100 rfl (by kernel_rfl) ?_)
 refine(HCK.out wA).mono ?_;rintro e w1 ⟨rfl,hb1⟩;have hr1:=qc hrA hb1;have hs1:=hb1.size;have hb0A:b0<wA.heap.size:=(Ai hrA).1;have hb01:b0<w1.heap.size:=by omega
 have hbB:Below b0 w w1:=hbA.trans (hb1.mono (by omega));have d0:w1.cell? ⟨b0,0,none⟩=some (.int .i64 (v 1:Nat)):=qa hr1 0;have d1:w1.cell? ⟨b0,1,none⟩=some (.int .i64 (v 2:Nat)):=qa hr1 1;have d2:w1.cell? ⟨b0,2,none⟩=some (.int .i64 (v 3:Nat)):=qa hr1 2;have d3:w1.cell? ⟨b0,3,none⟩=some (.int .i64 (v 4:Nat)):=qa hr1 3;have d4:w1.cell? ⟨b0,4,none⟩=some (.int .u32 (v 5:Nat)):=qa hr1 4;have d5:w1.cell? ⟨b0,5,none⟩=some (.int .u64 (v 6:Nat)):=qa hr1 5;have d6:w1.cell? ⟨b0,6,none⟩=some (.int .u32 (v 7:Nat)):=qa hr1 6;have d7:w1.cell? ⟨b0,7,none⟩=some (.int .i64 (v 8:Nat)):=qa hr1 7;have d8:w1.cell? ⟨b0,8,none⟩=some (.int .i64 (v 9:Nat)):=qa hr1 8;have HR1:=hid hr1;have HBB:=hid hbB;clear hb1 hbA hrA hr1 hbB hs1 hb0A;go_wp2_with fail
 refine(jT false _).mono ?_;rintro e w2 ⟨rfl,hw⟩;rw[hw];clear hw;rw[show((mB false:Nat):Int)=32 from rfl];have hmk:=fun W:World=>run_make (P:=Tryz.prog) W 24 5 i0 (.int .u8 0) Tryz.underlying24 hi hz0 .i64 .i64 32 32 (by omega) (by omega) (by rw[hz2];omega) (by omega)
 simp only[hz1]at hmk;go_wp2_with fail
 obtain⟨g,hg⟩:=Ex w1.heap.size;have hmc:madeCells #[.int .u8 0] 32=((List.replicate 32 (0:Int)).map qp).toArray:=by
  apply Array.toList_inj.1
  rw[toList_madeCells_one];simp[qp]
 have hw5:((w1.alloc (.cells (madeCells #[.int .u8 0] 32) 5)).alloc (.cells (ZF v) 44)).heap.size=g+2:=by simp[hg]
 have hg5:RowB ((w1.alloc (.cells (madeCells #[.int .u8 0] 32) 5)).alloc (.cells (ZF v) 44)) g (Qt false (v 7==0) v 0):=by
  unfold RowB;rw[Bh _ _ _ (by simp[hg]),hmc,←hg];exact Wn _ _
 have hv5':((w1.alloc (.cells (madeCells #[.int .u8 0] 32) 5)).alloc (.cells (ZF v) 44)).heap[g+1]? =some (.cells (ZF v) 44 (0,0)):=by
  rw[show g+1=(w1.alloc (.cells (madeCells #[.int .u8 0] 32) 5)).heap.size by simp[hg]];exact Wn _ _
 have hr5:((w1.alloc (.cells (madeCells #[.int .u8 0] 32) 5)).alloc (.cells (ZF v) 44)).heap[b0]? =some (.cells #[.int .i64 (v 1:Nat),.int .i64 (v 2:Nat),.int .i64 (v 3:Nat),.int .i64 (v 4:Nat),.int .u32 (v 5:Nat),.int .u64 (v 6:Nat),.int .u32 (v 7:Nat),.int .i64 (v 8:Nat),.int .i64 (v 9:Nat),.slice a1 z1.length c1,.slice a2 z2.length c2] 100 (0,0)):=by
  rw[Bh _ _ _ (by simp;omega),Bh _ _ _ (by omega)];exact HR1.out
 have hb5:Below b0 w ((w1.alloc (.cells (madeCells #[.int .u8 0] 32) 5)).alloc (.cells (ZF v) 44)):=(HBB.out.alloc (by omega) _).alloc (by simp;omega) _;change Code.wp _ _ _ _ ((w1.alloc (.cells (madeCells #[.int .u8 0] 32) 5)).alloc (.cells (ZF v) 44))
 rw[hg];have hgb:b0<g:=by omega
 generalize ((w1.alloc (.cells (madeCells #[.int .u8 0] 32) 5)).alloc (.cells (ZF v) 44))=W5 at*;have HG5:=hid hg5;have HV5R:=hid hv5';have HR5:=hid hr5;have HB5:=hid hb5;clear hg5 hv5' hr5 hb5 hmc hmk HR1 HBB hg d0 d1 d2 d3 d4 d5 d6 d7 d8 ww1 ww2 ww3 ww4 ww5 ww7 ww8 ww9;go_loopw [9] (fun f wr=> ∃n k:Nat,f= .int .i64 (n:Nat)∧n=k+1∧k≤9∧RowB wr g (Qt false (v 7==0) v k)∧But g W5 wr) (fun f _=>10 - (intOf f).toNat)
 case atStart=>exact⟨1,0,rfl,rfl,by omega,HG5.out,But.refl _ _⟩
 case round=>
  obtain⟨n,k,rfl,hnk,hk,hrow,hb⟩:=hrel;have HNK:=hid hnk;have HROW:=hid hrow;have HB:=hid hb;have hgs:g+1<wr.heap.size:=by have:=hb.size;omega
  have c6:wr.cell? ⟨b0,6,none⟩=some (.int .u32 (v 7:Nat)):=qa ((hb.block b0 (by omega) (by omega)).trans HR5.out) 6;have hb0s:b0<wr.heap.size:=by omega
  have hlen:=QH false (v 7==0) v k hk;by_cases hlt:k<9
  case pos=>
   have hn9:(n:Int)≤9:=by omega
   have hn1:1≤(n:Int):=by omega
   have hfk:(n:Int) - 1=(k:Nat):=by omega
   have cv:wr.cell? ⟨g+1,k,none⟩=some (.int .u64 (v (k+1):Nat)):=(qa ((hb.block (g+1) (by omega) (by omega)).trans HV5R.out) k).trans (qfh v hlt);rw[←hnk]at cv;have hk9:(k:Int)<9:=by omega
   have HPL:=hid (jp false n ⟨by omega,by omega⟩);have hsz:=QV false false n (by omega) (by omega);rw[show szE false false n=szB false n by simp[szE]]at hsz;have HL:=hid (qb5 (Qt false (v 7==0) v k) g 32 32 (atB false n) (szB false n) (by omega) (by rw[hlen];show _≤32;have:=hsz.2.2.2;have:=this rfl;omega) (by rw[hlen];rfl) Nl (by decide) (v n) (HLE.out n (by omega) (by omega)) wr hrow);have hstep: ¬(k+1=7∧(v 7==0)=true)→Qt false (v 7==0) v (k+1)=Qc (Qt false (v 7==0) v k) (atB false n) (Qa (v n) (szB false n)):=fun h=>by rw[Qt,if_neg h,hnk]
   have HST:=hid hstep;clear hstep hrow hb hnk hsz hlen;by_cases h7:k=6
   case pos=>
    obtain rfl:n=7:=by have:=HNK.out;omega
    subst h7;clear hfk hk9;have hq:((v 7:Int)==0)=true:=by rw[HX0.out];rfl
    go_wp2
    refine⟨⟨8,7,rfl,rfl,by omega,?_,HB.out⟩,by simp[intOf]⟩;have e:Qt false (v 7==0) v 7=Qt false (v 7==0) v 6:=by rw[Qt,if_pos ⟨rfl,by rw[HX0.out];rfl⟩]
    rw[e];exact HROW.out
   have h8: ¬((n:Int)=7):=by have:=HNK.out;omega
   have h9: ¬(n=7):=by have:=HNK.out;omega
   go_wp2_with fail
   refine(HPL.out _).mono ?_;rintro r w4 ⟨rfl,hw⟩;rw[hw];clear hw;go_wp2_with fail
   refine HL.out.mono ?_;rintro r w4 ⟨rfl,hl1,hl2⟩;have HL1:=hid hl1;have HL2:=hid hl2;clear hl1 hl2 c6 cv;go_wp2
   refine⟨⟨n+1,k+1,rfl,by rw[HNK.out],by omega,by rw[HST.out (fun h=>h7 (by omega))];exact HL1.out,HB.out.trans HL2.out⟩,by simp[intOf];omega⟩
  obtain rfl:k=9:=by omega
  obtain rfl:n=10:=by have:=HNK.out;omega
  clear hlen hrow hb hnk;clear c6 HNK hlt;have hEl:=QH false (v 7==0) v 9 (by omega);have HBL:=hid (show QT false v z1 z2=Qc (Qc (Qt false (v 7==0) v 9) 16 z1) 24 z2 from rfl);generalize Qt false (v 7==0) v 9=E at*;have hEl':E.length=32:=hEl;have HEL:=hid hEl';have HL1:=hid hl1;have HL2:=hid hl2;clear hEl hEl' hk hv5 hv7;go_wp2_with fail
  refine(Yc false _).mono ?_;rintro r w4 ⟨rfl,hw⟩;rw[hw];clear hw;rw[show((mB false:Nat):Int)=32 from rfl];go_wp2_with fail
  have HPL0:=HEL;go_loopw [13] (fun i wr=> ∃j:Nat,i= .int .i64 (j:Nat)∧j≤z1.length∧RowB wr g (Qc E 16 (z1.take j))∧But g W5 wr) (fun i _=>z1.length - (intOf i).toNat)
  case atStart=>exact⟨0,rfl,Nat.zero_le _,by rw[List.take_zero,YM];exact HROW.out,HB.out⟩
  case round=>
   clear HB HROW hgs hb0s;obtain⟨j,rfl,hj,hrow,hb⟩:=hrel;have HROW:=hid hrow;have HB:=hid hb;have hgs:g+1<wr.heap.size:=by have:=hb.size;omega
   have hb0s:b0<wr.heap.size:=by omega
   have hgs0:g<wr.heap.size:=by omega
   have cz:wr.cell? ⟨b0,9,none⟩=some (.slice a1 z1.length c1):=qa ((hb.block b0 (by omega) (by omega)).trans HR5.out) 9;by_cases hlt:j<z1.length
   case pos=>
    obtain⟨bb,of',rfl,q1,q2,q3,q4⟩:=Jt HH1.out (hb0▸HB5.out.trans (hb.below (by omega) (by omega))) hlt;have hst:=hrow.set (16+j) (qo z1 j);rw[Z9 hlt (by have:=HEL.out;have:=HL1.out;omega)]at hst;have HST:=hid hst;have hlen:(Qc E 16 (z1.take j)).length=32:=by rw[Qe (by rw[List.length_take];have:=HPL0.out;have:=HL1.out;have:=HL2.out;omega)];exact HPL0.out
    have co:=hrow.cell (i:=16+j) (by rw[hlen];have:=HL1.out;have:=HL2.out;omega);have fo:=frozen_of_row wr g (16+j) _ _ hrow;generalize qo (Qc E 16 (z1.take j)) (16+j)=zo at co;generalize qo z1 j=zj at*;have hjs:(j:Int)<8:=by have:=HL1.out;have:=HL2.out;omega
    clear hst hlen hrow hb;go_wp2
    exact⟨⟨j+1,rfl,by omega,HST.out,HB.out.set _ _⟩,by simp[intOf];omega⟩
   obtain rfl:j=z1.length:=by omega
   rw[List.take_length]at HROW;clear hrow hb;clear hj hlt HPL0;have HPL0:=hid (show(Qc E 16 z1).length=32 from by rw[Qe (by have:=HEL.out;have:=HL1.out;omega)];exact HEL.out);go_wp2_with fail
   clear cz hgs0;go_loopw [14] (fun i wr=> ∃j:Nat,i= .int .i64 (j:Nat)∧j≤z2.length∧RowB wr g (Qc (Qc E 16 z1) 24 (z2.take j))∧But g W5 wr) (fun i _=>z2.length - (intOf i).toNat)
   case atStart=>exact⟨0,rfl,Nat.zero_le _,by rw[List.take_zero,YM];exact HROW.out,HB.out⟩
   case round=>
    clear HB HROW hgs hb0s;obtain⟨j,rfl,hj,hrow,hb⟩:=hrel;have HROW:=hid hrow;have HB:=hid hb;have hgs:g+1<wr.heap.size:=by have:=hb.size;omega
    have hb0s:b0<wr.heap.size:=by omega
    have hgs0:g<wr.heap.size:=by omega
    have cz:wr.cell? ⟨b0,10,none⟩=some (.slice a2 z2.length c2):=qa ((hb.block b0 (by omega) (by omega)).trans HR5.out) 10;by_cases hlt:j<z2.length
    case pos=>
     obtain⟨bb,of',rfl,q1,q2,q3,q4⟩:=Jt HH2.out (hb0▸HB5.out.trans (hb.below (by omega) (by omega))) hlt;have hst:=hrow.set (24+j) (qo z2 j);rw[Z9 hlt (by have:=HPL0.out;have:=HL2.out;omega)]at hst;have HST:=hid hst;have hlen:(Qc (Qc E 16 z1) 24 (z2.take j)).length=32:=by rw[Qe (by rw[List.length_take];have:=HPL0.out;have:=HL1.out;have:=HL2.out;omega)];exact HPL0.out
     have co:=hrow.cell (i:=24+j) (by rw[hlen];have:=HL1.out;have:=HL2.out;omega);have fo:=frozen_of_row wr g (24+j) _ _ hrow;generalize qo (Qc (Qc E 16 z1) 24 (z2.take j)) (24+j)=zo at co;generalize qo z2 j=zj at*;have hjs:(j:Int)<8:=by have:=HL1.out;have:=HL2.out;omega
     clear hst hlen hrow hb;go_wp2
     exact⟨⟨j+1,rfl,by omega,HST.out,HB.out.set _ _⟩,by simp[intOf];omega⟩
    obtain rfl:j=z2.length:=by omega
    rw[List.take_length]at HROW;clear hrow hb;clear hj hlt;go_wp2
    go_ret2
    refine⟨⟨_,rfl,?_⟩,by rw[hb0];exact HB5.out.trans (HB.out.below (by omega) (by omega))⟩;have hbl:=yh (big:=false) (v:=v) HL1.out HL2.out;refine⟨by rw[List.length_map,hbl];rfl,.inr ⟨g,32,_,rfl,by omega,HROW.out,Nat.le_refl _,by unfold maxLen;omega,?_,?_⟩⟩
    ·rw[List.size_toArray,List.length_map,←HBL.out,hbl];rfl
    ·rw[←HBL.out];exact List.take_of_length_le (by rw[List.length_map,hbl];decide)
theorem qig (b:List Int)(g n c p k:Nat)(hk:k≤8)(hp:p+k≤b.length)(hn:n=b.length)(hc:n≤c)(hc2:n≤65535)(x:Nat)(hx:(x:Int)≤18446744073709551615)(w:World)(h:RowB w g b):
  Calls Tryz.prog 78 #[.slice (some ⟨g,0,none⟩) n c,.int .i64 (p:Nat),.int .i64 (k:Nat),.int .u64 (x:Nat)] w fun e w'=>e= .returned (.tuple #[])∧RowB w' g (Qc b p (Qa x k))∧But g w w':=by
 have hgs:g<w.heap.size:=(Ai h).1;have HR:=hid h;have HN:=hid hn;have hpk:(p:Int)+k≤n:=by omega
 have hnn:(n:Int)≤65535:=by omega
 clear h hn;go_enter Tryz.func78,Tryz.ntmps78
 go_wp2_with fail
 go_loopw [10] (fun i wr=> ∃j:Nat,i= .int .i64 (j:Nat)∧j≤k∧RowB wr g (Qc b p (Qa x j))∧But g w wr) (fun i _=>k - (intOf i).toNat)
 case atStart=>exact⟨0,rfl,Nat.zero_le _,by show RowB w g (Qc b p []);rw[YM];exact HR.out,But.refl _ _⟩
 case round=>
  obtain⟨j,rfl,hj,hrow,hb⟩:=hrel;by_cases hlt:j<k
  ·have hl:(Qc b p (Qa x j)).length=b.length:=Qe (by rw[qS];omega);have hc0:=hrow.cell (i:=p+j) (by have:=HN.out;omega);have hf0:=frozen_of_row wr g (p+j) _ _ hrow;have hg0:g<wr.heap.size:=Nat.lt_of_lt_of_le hgs hb.size;have q:=zJ x j;have hst:=hrow.set (p+j) (byt x j);have e:(Qc b p (Qa x j)).set (p+j) (byt x j)=Qc b p (Qa x (j+1)):=by
    have e1:=JO (b:=b) (zs:=Qa x j) (p:=p) (z:=byt x j) (by rw[qS];omega);rw[qS]at e1;rw[←e1,zI]
   rw[e]at hst;have HST:=hid hst;have HB:=hid hb;generalize qo (Qc b p (Qa x j)) (p+j)=z0 at hc0;have hjk:(j:Int)<k∧(k:Int)≤8∧0≤(j:Int)∧(p:Int)+j<n:=by omega
   obtain⟨q1,q2,q3,q4⟩:=hjk;clear hst e hl hrow hb;go_wp2
   exact⟨⟨j+1,rfl,by omega,HST.out,HB.out.set _ _⟩,by simp[intOf];omega⟩
  ·obtain rfl:j=k:=by omega
   have HB:=hid hb;have HW:=hid hrow;clear hb hrow;go_wp2
   go_end0
   exact⟨rfl,HW.out,HB.out⟩
theorem qgj {big:Bool}{v:Nat→Nat}(hP:ParOk big v)(sa pe:Value)(f:Nat)(h1:1≤f)(h2:f≤9)(w:World):
  Calls Tryz.prog 79 #[parN v sa pe,.int .i64 (f:Nat)] w fun e w'=>e= .returned (.int .u64 (v f:Nat))∧Below w.heap.size w w':=by
 have q:IntKind.u64.wrap ((v f:Nat):Int)=((v f:Nat):Int):=u64_wrap_id _ (by omega) (by have:=hP.le f h1 h2;omega);unfold parN yP;clear hP;rcases(show f=1∨f=2∨f=3∨f=4∨f=5∨f=6∨f=7∨f=8∨f=9 by omega)with rfl|rfl|rfl|rfl|rfl|rfl|rfl|rfl|rfl
 all_goals
  clear h1 h2;go_enter Tryz.func79,Tryz.ntmps79
  go_wp2_with fail
  go_ret
  exact⟨rfl,Br.alloc Nl _⟩
end Go.Proofs.YtdndeffmlhaipaaGreat
