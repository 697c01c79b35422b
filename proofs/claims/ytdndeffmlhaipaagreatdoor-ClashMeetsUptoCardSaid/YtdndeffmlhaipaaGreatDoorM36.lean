/- All nodes, row by row, each handed to a function that keeps an account: by the program. No condition. -/
import Derived.Test.YtdndeffmlhaipaaGreatDoorM32
import Derived.Test.YtdndeffmlhaipaaGreatDoorM29
import Derived.Maps.AppendAt
set_option linter.all false
set_option maxRecDepth 100000
set_option maxHeartbeats 8000000
namespace Go.Proofs.YtdndeffmlhaipaaGreatDoor
open Go.ChangeShapes Go.WideShapes Go.ChangeAt Go.RowKit Go.Joins Go.Shelf Go.Maps
open Go.Lib (hid)
attribute [local go_sem] Oper.semAt_some
structure Tend (F:Nat→Prop)(w w':World):Prop where
 sp:Spare (fun k=> ¬F k) w w'
 bytes: ∀(k:Nat) (c:Array Value),w.heap[k]? =some (.cells c 5 (0,0))→w'.heap[k]? =some (.cells c 5 (0,0))
theorem OwnB.tend {B:Nat}{w w':World}{x:Value}{z:List Int}(h:OwnB B w x z)(hb: ∀(k:Nat) (c:Array Value),w.heap[k]? =some (.cells c 5 (0,0))→w'.heap[k]? =some (.cells c 5 (0,0))):OwnB B w' x z:=by
 refine⟨h.1,?_⟩;rcases h.2 with h|⟨g,cap,cur,e,h1,h2,h3⟩
 ·exact .inl h
 ·exact .inr ⟨g,cap,cur,e,h1,hb _ _ h2,h3⟩
theorem ListO.tend {B:Nat}{w w':World}{v:Value}{L:List (List Int)}(h:ListO B w v L)(hb: ∀(k:Nat) (c:Array Value),w.heap[k]? =some (.cells c 5 (0,0))→w'.heap[k]? =some (.cells c 5 (0,0)))(hs: ∀g,v.ownBlock=some g→w'.heap[g]? =w.heap[g]?):ListO B w' v L:=by
 obtain⟨vs,ho,hx⟩:=h;exact⟨vs,Jd ho hs,fun i hi=>(hx i hi).tend hb⟩
theorem ListO.block_lt {B:Nat}{w:World}{v:Value}{L:List (List Int)}(h:ListO B w v L): ∀g,v.ownBlock=some g→g<w.heap.size:=by
 obtain⟨vs,ho, -⟩:=h;exact yS ho
structure Seer (t:TreeV)(kz z1 z2:List Int)(w0:World)(fk bl:Nat)(I:List (List CallS)→List CallS→(Nat→Prop)→World→Prop):Prop where
 lt: ∀{done cur F w},I done cur F w→ ∀k,F k→w0.heap.size≤k∧k<w.heap.size
 keep: ∀{done cur F w w'},I done cur F w→Below w0.heap.size w w'→(∀k,F k→w'.heap[k]? =w.heap[k]?)→(∀(k:Nat) (c:Array Value),w.heap[k]? =some (.cells c 5 (0,0))→w'.heap[k]? =some (.cells c 5 (0,0)))→I done cur F w'
 next: ∀{done cur F w},cur≠[]→I done cur F w→I (done++[cur]) [] F w
 see: ∀{done cur F w} {row i:Nat} {la rt:Bool} {d:List Int} {bv kv dv:Value},I done cur F w→done.length=row→row≤255→i≤8388608→(∀l∈done,l.length≤8388608)→cur.length≤8388608→Below w0.heap.size w0 w→
  w.ownsRow w0.heap.size 5 1 bv (mB t.big) ((t.blk z1 z2 row i).map qv)→w.ownsRow w0.heap.size 5 1 kv (zm row kz).length ((zm row kz).map qv)→OwnB w0.heap.size w dv d→d.length≤1073741824→
  Calls Tryz.prog fk #[.agg (qx t.k bv kv la (t.outN rt) dv),.int .i64 (row:Nat),.pointer (some ⟨bl,0,none⟩)] w fun e w'=> ∃u F',e= .returned u∧OwnB w.heap.size w' u (t.node kz z1 z2 row i la rt d)∧(∀k,F' k→F k∨w.heap.size≤k)∧I done (cur++[t.callS kz z1 z2 row i la rt d]) F' w'∧Tend F w w'
def TreeV.dataR (t:TreeV)(kz z1 z2 zs:List Int):Nat→List (List Int)
 | 0=>yJ t.ln zs
 | r+1=>t.upZ (r+1) (t.lvlZ kz z1 z2 (t.leafZ kz z1 z2 zs) r)
def TreeV.rtR (t:TreeV)(kz z1 z2 zs:List Int):Nat→Bool
 | 0=>false
 | r+1=>t.rootZ (r+1) (t.lvlZ kz z1 z2 (t.leafZ kz z1 z2 zs) r).length
def TreeV.callsR (t:TreeV)(kz z1 z2 zs:List Int)(r:Nat):List CallS:=t.rowC kz z1 z2 r (t.rtR kz z1 z2 zs r) (t.dataR kz z1 z2 zs r) (t.dataR kz z1 z2 zs r).length
def TreeV.allC (t:TreeV)(kz z1 z2 zs:List Int)(m:Nat):List (List CallS):=(List.range m).map (t.callsR kz z1 z2 zs)
theorem TreeV.lvl_is (t:TreeV)(kz z1 z2 zs:List Int)(r:Nat):t.lvlZ kz z1 z2 (t.leafZ kz z1 z2 zs) r=t.rowZ kz z1 z2 r (t.rtR kz z1 z2 zs r) (t.dataR kz z1 z2 zs r) (t.dataR kz z1 z2 zs r).length:=by
 cases r<;>rfl
theorem TreeV.allC_succ (t:TreeV)(kz z1 z2 zs:List Int)(m:Nat):t.allC kz z1 z2 zs (m+1)=t.allC kz z1 z2 zs m++[t.callsR kz z1 z2 zs m]:=by simp[TreeV.allC,List.range_succ]
theorem TreeV.allC_length (t:TreeV)(kz z1 z2 zs:List Int)(m:Nat):(t.allC kz z1 z2 zs m).length=m:=by simp[TreeV.allC]
theorem yi {t:TreeV}(h:t.validE=0)(hl:0≤t.l∧t.l≤4294967295)(kz z1 z2 zs:List Int)(r:Nat):1≤(t.dataR kz z1 z2 zs r).length∧(t.dataR kz z1 z2 zs r).length≤zs.length+1∧ ∀i,(qJ (t.dataR kz z1 z2 zs r) i).length≤64*(zs.length+1):=by
 have hL:=qz h hl kz z1 z2 zs;have hln:1≤t.ln:=by
  have:=(qd h).2.2.2.2.2.2.2.2.1
  unfold TreeV.ln;omega
 cases r with
 | zero=>
  have h1:=Jt zs hln;exact⟨h1.1,h1.2,fun i=>by have:=qbt (n:=t.ln) zs i;show(qJ (yJ t.ln zs) i).length≤_;omega⟩
 | succ r=>
  have hF:=Qc h kz z1 z2 hL.1 hL.2.2 r;have h1:=Yv h (r+1) hF.1;refine⟨h1.1,?_,fun i=>?_⟩
  ·show(t.upZ (r+1) _).length≤_;omega
  ·have h2:=zC t (r+1) (t.lvlZ kz z1 z2 (t.leafZ kz z1 z2 zs) r) i;have h3:=yx hF.2.2;show(qJ (t.upZ (r+1) _) i).length≤_
   omega
theorem qar {ops:Array Oper}{rest:List Oper}{o:Oper}{a:Act}{Q:Exit→Act→World→Prop}{W:World}(hgd:o.guard=none)(s x:Operand)
  (ho:o.op= .call { callee:= .builtin .append,args:= #[s,x],argTypes:= #[60,60] }) (B:Nat) (v:Value) (L:List (List Int)) (z:List Int) (u:Value) (hs:a.eval s=v) (hl:ListO B W v L) (hz:OwnB B W u z)
  (hx:a.eval x= .slice (some ⟨W.heap.size,0,none⟩) 1 1) (h63:L.length≤8388608) (hB:B≤W.heap.size)
  (h: ∀v' w',ListO B w' v' (L++[z])→KB B W w'→Spare (fun k=>v.ownBlock≠some k) W w'→(v'.ownBlock=v.ownBlock∨ ∀g,v'.ownBlock=some g→W.heap.size≤g)→wpList Tryz.prog ops Q rest (a.put o.dst v') w'):wpList Tryz.prog ops Q (o::rest) a (W.alloc (.cells #[u] 24)):=by
 obtain⟨ib,hib,hzb,hsb,hbb⟩:=info_parts yo;obtain⟨vs,hown,hxs⟩:=hl;have hvl:vs.length=L.length:=by have:=hown.1;simpa using this
 refine wpList_append_own_at _ hgd s x _ ho B 24 ib (.slice none 0 0) 1 24 Tryz.underlying60 hib hzb hsb hbb rfl (by decide) v L.length vs hs (hown.alloc _) ⟨W.heap.size,0,none⟩ 1 1 [u] hx rfl (cell_one_new W u _) (by simpa using hz.one) (by unfold maxLen;omega) (by omega) (by simp;omega) fun v' w' h2 h3 _ h5=>?_
 have hsp:Spare (fun k=>v.ownBlock≠some k) W w':=(Spare.of_below _ (Br.alloc Nl _)).trans (Spare.of_grown h3) (fun _ _ h=>h);have hkb:KB B W w':=⟨hsp.os,hsp.tape,hsp.output,hsp.size,fun k hk=>hsp.block k (by omega) (fun e2=>by
   rcases hown.2 with⟨rfl, -⟩|⟨g,cap,cur,rfl,h4, -⟩
   ·cases e2
   ·simp only[Value.ownBlock,Option.some.injEq]at e2;omega),fun k c hc=>by
   rw[hsp.block k (Ai hc).1 (fun e2=>?_)]
   ·exact hc
   ·rcases hown.2 with⟨rfl, -⟩|⟨g,cap,cur,rfl, -,h5, -⟩
    ·cases e2
    ·simp only[Value.ownBlock,Option.some.injEq]at e2;subst e2;rw[h5]at hc;simp only[Option.some.injEq,Obj.cells.injEq]at hc;exact absurd hc.2.1 (by decide)⟩
 refine h v' w' (ListO.snoc (w:=W) (vs:=vs) hxs hvl hz h2 hkb) hkb hsp ?_;rcases h5 with h5|h5
 ·exact .inl h5
 ·exact .inr fun g hg=>by rw[h5]at hg;simp only[World.alloc,Array.size_push,Option.some.injEq]at hg;omega
theorem qdQ {t:TreeV}{kz z1 z2 zs:List Int}{w0:World}{fk bl:Nat}{I:List (List CallS)→List CallS→(Nat→Prop)→World→Prop}(hS:Seer t kz z1 z2 w0 fk bl I)(hT:TreeOk t kz z1 z2 w0)(hn:zs.length≤4194304)(v:Value)(w:World)(F0:Nat→Prop)
  (hw:Below w0.heap.size w0 w) (hI:I [] [] F0 w) (hv:ListO w0.heap.size w v (yJ t.ln zs)) (hvF: ∀g,v.ownBlock=some g→ ¬F0 g) (hcf: ∀(args:Array Value) (W:World),(callFunc fk args).run Tryz.prog W= .ok (.enter fk args) W):
  Calls Tryz.prog 35 #[t.val,v,.func (.func fk) #[] #[.pointer (some ⟨bl,0,none⟩)]] w fun e w'=>e= .returned (.tuple #[])∧(∃R F',t.topAt kz z1 z2 (t.leafZ kz z1 z2 zs) R∧I (t.allC kz z1 z2 zs R) (t.callsR kz z1 z2 zs R) F' w'∧ ∀k,F' k→F0 k∨w.heap.size≤k)∧Below w0.heap.size w w'∧Tend F0 w w':=by
 obtain⟨b0,hb0⟩:=Ex w.heap.size;have hw0:w0.heap.size≤b0:=by have:=hw.size;omega
 have HS:=hid hS;have HT:=hid hT;have HW:=hid hw;have HI:=hid hI;have HV:=hid hv;have HVF:=hid hvF;have HF0:=hid (fun k hk=>hS.lt hI k hk);have HDF:=hid (fun r=>yi hT.v hT.l kz z1 z2 zs r);have hLF:=qz hT.v hT.l kz z1 z2 zs;have HLF:=hid (Qc hT.v kz z1 z2 hLF.1 hLF.2.2);have HLEN:=hid hLF.2.1;have hp:2≤t.p∧t.p≤255:=⟨(qd hT.v).2.2.2.2.2.2.1,(qd hT.v).2.2.2.2.2.2.2.1⟩;obtain⟨va,vc,rfl,hvc1,hvc2, -⟩:=hv.hold;have hbA:Below b0 w (w.alloc (.cells #[.int .i64 t.k,.int .i64 t.d,.int .i64 t.f,.int .i64 t.p,.int .u32 t.l,.int .i64 t.i,.slice t.ka t.kl t.kc,.slice t.sa t.sl t.sc,.slice t.pa t.pl t.pc] 26)):=by rw[←hb0];exact Br.alloc Nl _
 have hrA:=Wn w (.cells #[.int .i64 t.k,.int .i64 t.d,.int .i64 t.f,.int .i64 t.p,.int .u32 t.l,.int .i64 t.i,.slice t.ka t.kl t.kc,.slice t.sa t.sl t.sc,.slice t.pa t.pl t.pc] 26);rw[hb0]at hrA;clear hS hT hw hI hv hvF hLF;unfold TreeV.val;go_enter Tryz.func35,Tryz.ntmps35
 go_upto_region 1 with(fail)
 generalize w.alloc (.cells #[.int .i64 t.k,.int .i64 t.d,.int .i64 t.f,.int .i64 t.p,.int .u32 t.l,.int .i64 t.i,.slice t.ka t.kl t.kc,.slice t.sa t.sl t.sc,.slice t.pa t.pl t.pc] 26)=wA at*;have HRA:=hid hrA;have HBA:=hid hbA;have hsA:b0<wA.heap.size:=(Ai hrA).1;clear hrA hbA;go_wp2_with fail
 go_loopw [1,6,7] (fun d rt i wr=> ∃(r:Nat) (F:Nat→Prop),i= .int .i64 (r:Nat)∧(r:Int)≤t.p - 1∧rt= .bool (t.rtR kz z1 z2 zs r)∧ListO w0.heap.size wr d (t.dataR kz z1 z2 zs r)∧(∀g,d.ownBlock=some g→ ¬F g)∧I (t.allC kz z1 z2 zs r) [] F wr∧(∀k,F k→F0 k∨b0<k)∧
   (∀q',1≤q'→q'<r→t.rootZ q' (t.lvlZ kz z1 z2 (t.leafZ kz z1 z2 zs) (q' - 1)).length=false)∧Below w0.heap.size w wr∧Tend F0 w wr∧wr.heap[b0]? =some (.cells #[.int .i64 t.k,.int .i64 t.d,.int .i64 t.f,.int .i64 t.p,.int .u32 t.l,.int .i64 t.i,.slice t.ka t.kl t.kc,.slice t.sa t.sl t.sc,.slice t.pa t.pl t.pc] 26 (0,0))) (fun _ _ i _=>256 - (intOf i).toNat)
 case atStart=>
  have hk0:KB 0 w wA:=KB.of_below (hb0▸HBA.out) (Nat.zero_le _);exact⟨0,F0,rfl,by omega,rfl,HV.out.below (hb0▸HBA.out),HVF.out,HS.out.keep HI.out (HBA.out.mono hw0) (fun k hk=>HBA.out.block k (by have:=(HF0.out k hk).2;omega)) hk0.bytes,fun k hk=> .inl hk,fun q' h1 h2=>by omega,HBA.out.mono hw0,⟨Spare.of_below _ (hb0▸HBA.out),hk0.bytes⟩,HRA.out⟩
 case round=>
  obtain⟨r,F,rfl,hrp,rfl,hd,hdF,hIr,hFF,hno,hb,ht,hrr⟩:=hrel;rename World=>wq
  have hwq:Below w0.heap.size w0 wq:=HW.out.trans hb;obtain⟨d1,d2,d3⟩:=HDF.out r;have hLR:=t.lvl_is kz z1 z2 zs r;have hCR:t.callsR kz z1 z2 zs r=t.rowC kz z1 z2 r (t.rtR kz z1 z2 zs r) (t.dataR kz z1 z2 zs r) (t.dataR kz z1 z2 zs r).length:=rfl;have hRT: ∀b,t.rtR kz z1 z2 zs r=b→(b=true→1≤r∧t.rootZ r (t.lvlZ kz z1 z2 (t.leafZ kz z1 z2 zs) (r - 1)).length=true)∧(b=false→1≤r→t.rootZ r (t.lvlZ kz z1 z2 (t.leafZ kz z1 z2 zs) (r - 1)).length=false):=by
   intro b hb;subst hb
   cases r with
   | zero=>exact⟨(fun h=>by cases h),(fun _ h=>by omega)⟩
   | succ r=>exact⟨fun h=>⟨by omega,h⟩,fun h _=>h⟩
  have HRT:=hid hRT;have HLR:=hid hLR;have HCR:=hid hCR;have HUP:=hid (show ∀q,q=r+1→t.dataR kz z1 z2 zs q=t.upZ q (t.lvlZ kz z1 z2 (t.leafZ kz z1 z2 zs) r)∧t.rtR kz z1 z2 zs q=t.rootZ q (t.lvlZ kz z1 z2 (t.leafZ kz z1 z2 zs) r).length from fun q hq=>by subst hq;exact⟨rfl,rfl⟩);have HLVF:=hid (HLF.out r);have HCL:=hid (show ∀l∈t.allC kz z1 z2 zs r,l.length≤8388608 from fun l hl=>by
   obtain⟨q, -,rfl⟩:=List.mem_map.1 hl;have:=(HDF.out q).2.1
   show(t.rowC _ _ _ _ _ _ _).length≤_
   rw[qq];omega)
  have HAL:=hid (t.allC_length kz z1 z2 zs r);have HAS:=hid (t.allC_succ kz z1 z2 zs r);generalize t.dataR kz z1 z2 zs r=D at*;generalize t.rtR kz z1 z2 zs r=rt at*;generalize hCRE:t.callsR kz z1 z2 zs r=CR at*;generalize hACE:t.allC kz z1 z2 zs r=AC at*;have HCRE:=hid hCRE;have HACE:=hid hACE;clear hCRE hACE;obtain⟨dg,dc,dx,rfl,hdg, -, -⟩:=hd.get (i:=0) (by omega);have hdF': ¬F dg:=hdF dg rfl;have hFb0: ¬F b0:=fun h=>by
   rcases hFF b0 h with h2|h2
   ·have:=(HF0.out b0 h2).2;omega
   ·omega
  obtain⟨bN,hbN⟩:=Ex wq.heap.size;have hbb:b0<bN:=by rw[←hbN];exact(Ai hrr).1
  have HD:=hid hd;have HIR:=hid hIr;have HFF:=hid hFF;have HNO:=hid hno;have HB:=hid hb;have HTD:=hid ht;have HRR:=hid hrr;have HWQ:=hid hwq;have HDX:=hid d3;have hDn:D.length≤4194305:=by omega
  have hDi:(D.length:Int)≤9223372036854775807:=by omega
  clear hd hdF hIr hFF hno hb ht hrr hwq hLR hCR hRT d3 d2;go_wp2_with fail
  go_loopw [8,15] (fun s i wr=> ∃(j:Nat) (F':Nat→Prop),i= .int .i64 (j:Nat)∧j≤D.length∧ListO bN wr s (t.rowZ kz z1 z2 r rt D j)∧(∀g,s.ownBlock=some g→ ¬F' g)∧I AC (t.rowC kz z1 z2 r rt D j) F' wr∧(∀k,F' k→F k∨bN≤k)∧ListO w0.heap.size wr (.slice (some ⟨dg,0,none⟩) D.length dc) D∧Below w0.heap.size w wr∧Tend F0 w wr∧wr.heap[b0]? =some (.cells #[.int .i64 t.k,.int .i64 t.d,.int .i64 t.f,.int .i64 t.p,.int .u32 t.l,.int .i64 t.i,.slice t.ka t.kl t.kc,.slice t.sa t.sl t.sc,.slice t.pa t.pl t.pc] 26 (0,0))∧bN≤wr.heap.size) (fun _ i _=>D.length - (intOf i).toNat)
  case atStart=>exact⟨0,F,rfl,Nat.zero_le _,ListO.nil _ _,(fun g h=>by cases h),HIR.out,fun k h=> .inl h,HD.out,HB.out,HTD.out,HRR.out,by omega⟩
  case round=>
   obtain⟨j,F',rfl,hj,ho,hoF,hI,hFF',hd,hb,ht,hrr,hbr⟩:=hrel;by_cases hlt:j<D.length
   case pos=>
    have hlt2:(j:Int)<D.length:=by omega
    obtain⟨g1,c1,x,e,hg1,hx,hxo⟩:=hd.get hlt;simp only[Value.slice.injEq,Option.some.injEq,Addr.mk.injEq,and_true,true_and]at e;obtain⟨rfl,rfl⟩:=e;obtain⟨xb,xd,rfl, -, -⟩:=hxo.hold.slice;have HXO:=hid hxo;have HXL:=hid (HDX.out j);obtain⟨ql,hql⟩: ∃q:Bool,decide (j+1=D.length)=q:=⟨_,rfl⟩;have hla:((j:Int)==(D.length:Int) - 1)=ql:=by
     rw[←hql,Bool.eq_iff_iff,beq_iff_eq,decide_eq_true_eq];omega
    have HQL:=hid hql;have hju:IntKind.u64.wrap (j:Int)=(j:Int):=u64_wrap_id _ (by omega) (by omega);have HO:=hid ho;have HOF:=hid hoF;have HI2:=hid hI;have HFF2:=hid hFF';have HD2:=hid hd;have HB2:=hid hb;have HT2:=hid ht;have HR2:=hid hrr;have HWR:=hid (HW.out.trans hb);have hw0r:w0.heap.size≤wr.heap.size:=HWR.out.size;have hTr:=HT.out.below HWR.out;have HTR:=hid hTr;obtain⟨a8,c8,rfl, -, -, -⟩:=ho.hold;have HSL:=hid (HS.out.lt hI);clear hxo hql ho hoF hI hFF' hd hb ht hrr hTr;go_wp2_with ((with_reducible show wpList _ _ _ (Oper.mk _ (Op.load 26 _) _ _ _ _::_) _ _);refine wpList_load_row rfl 26 _ rfl b0 rfl _ _ _ _ HR2.out Tryz.underlying26 rfl (by kernel_rfl) ?_)
    refine(Y7 t HTR.out.v HTR.out.l z1 z2 kz r j (by omega) (by omega) ql rt xb (qJ D j).length xd wr HTR.out.s HTR.out.p HTR.out.k).mono ?_;rintro e w4 ⟨bv,kv,rfl,hbo,hko,hb4⟩;have hs4:=hb4.size;have hk4:=KB.of_below hb4 hbr;have HI4:=hid (HS.out.keep HI2.out (hb4.mono hw0r) (fun k hk=>hb4.block k (HSL.out k hk).2) hk4.bytes);have HX4:=hid (HXO.out.kb hk4);have HO4:=hid (HO.out.below hb4);have HD4:=hid (HD2.out.below hb4);have HR4:=hid (qb HR2.out hb4);have HW4:=hid (HWR.out.trans (hb4.mono hw0r));have HB4:=hid (HB2.out.trans (hb4.mono hw0r));have HT4:=hid (show Tend F0 w w4 from⟨HT2.out.sp.trans (Spare.of_below (fun k=> ¬F0 k) hb4) (fun _ _ h=>h),fun k c h=>hk4.bytes k c (HT2.out.bytes k c h)⟩);have HSE:=hid (HS.out.see (la:=ql) (rt:=rt) HI4.out HAL.out (by omega) (show j≤8388608 by omega) HCL.out (by rw[qq];omega) HW4.out (ownsRow_le hbo hw0r) (ownsRow_le hko hw0r) HX4.out (by have:=HXL.out;omega));have HLT4:=hid (HS.out.lt HI4.out);clear hbo hko hk4 hb4;go_wp2_with fail
    refine HSE.out.mono ?_;rintro e w5 ⟨u,F5,rfl,hu,hF5,hI5,ht5⟩;obtain⟨u1,u3,rfl, -, -⟩:=hu.hold.slice;have hs5:=ht5.sp.size;have hbl: ∀g,(Value.slice a8 (t.rowZ kz z1 z2 r rt D j).length c8).ownBlock=some g→g<wr.heap.size:=HO.out.block_lt;have hk5:KB w0.heap.size w4 w5:=⟨ht5.sp.os,ht5.sp.tape,ht5.sp.output,ht5.sp.size,fun k hk=>ht5.sp.block k (by omega) (fun h=>by have:=(HLT4.out k h).1;omega),ht5.bytes⟩;have HO5:=hid (HO4.out.tend ht5.bytes (fun g hg=>ht5.sp.block g (by have:=hbl g hg;omega) (HOF.out g hg)));have hdgF: ¬F' dg:=fun h=>by
     rcases HFF2.out dg h with h2|h2
     ·exact hdF' h2
     ·omega
    have hb0F: ¬F' b0:=fun h=>by
     rcases HFF2.out b0 h with h2|h2
     ·exact hFb0 h2
     ·omega
    have HD5:=hid (HD4.out.tend ht5.bytes (fun g hg=>by
     simp only[Value.ownBlock,Option.some.injEq]at hg;subst hg;exact ht5.sp.block dg (by omega) hdgF))
    have HR5:=hid ((ht5.sp.block b0 (by omega) hb0F).trans HR4.out);have HU5:=hid (hu.le (show bN≤w4.heap.size by omega));have HF5:=hid (show ∀k,F5 k→F k∨bN≤k from fun k hk=>by
     rcases hF5 k hk with h|h
     ·exact HFF2.out k h
     ·exact .inr (by omega))
    have HOF5:=hid (show ∀g,(Value.slice a8 (t.rowZ kz z1 z2 r rt D j).length c8).ownBlock=some g→ ¬F5 g from fun g hg h=>by
     rcases hF5 g h with h2|h2
     ·exact HOF.out g hg h2
     ·have:=hbl g hg;omega)
    have HI5:=hid hI5;have HB5:=hid (HB4.out.trans hk5.below);have HT5:=hid (show Tend F0 w w5 from⟨HT4.out.sp.trans ht5.sp (fun k hk h h2=>by
     rcases HFF2.out k h2 with h3|h3
     ·rcases HFF.out k h3 with h4|h4
      ·exact h h4
      ·omega
     ·omega),fun k c h=>ht5.bytes k c (HT4.out.bytes k c h)⟩)
    have HLT5:=hid (HS.out.lt hI5);have hNd:t.node kz z1 z2 r j ql rt (qJ D j)=t.node kz z1 z2 r j (decide (j+1=D.length)) rt (qJ D j):=by rw[HQL.out]
    have hCd:t.callS kz z1 z2 r j ql rt (qJ D j)=t.callS kz z1 z2 r j (decide (j+1=D.length)) rt (qJ D j):=by rw[HQL.out]
    have HND:=hid hNd;have HCD:=hid hCd;have hrl:=t.rowZ_length kz z1 z2 r rt D j;have HRL:=hid hrl;generalize t.node kz z1 z2 r j ql rt (qJ D j)=ND at*;generalize t.callS kz z1 z2 r j ql rt (qJ D j)=CD at*;rw[hrl]at HO5 HOF5⊢;clear hu hF5 hI5 ht5 hk5 hNd hCd hrl HSE HO HOF HO4 HD4 HI4 hbl hdgF hb0F;go_wp2_with (first|((with_reducible show wpList _ _ _ (Oper.mk _ (Op.buildSlice _ _ _) _ _ _ _::_) _ _);refine qR rfl _ rfl _ _ _ rfl ?_)|(at_builtin;refine qar rfl _ _ rfl bN (.slice a8 j c8) (t.rowZ kz z1 z2 r rt D j) ND (.slice u1 ND.length u3) rfl HO5.out HU5.out rfl (by rw[HRL.out];omega) (by omega) ?_;intro v' w' hlo' hkb' hsp' hat'))
    have hs6:=hkb'.size;have hB6:Below w0.heap.size w5 w':=hkb'.below.mono (by omega);have hF6: ∀k,F5 k→w'.heap[k]? =w5.heap[k]? :=fun k hk=>hsp'.block k (HLT5.out k hk).2 (fun e=>HOF5.out k e hk)
    refine⟨⟨j+1,F5,rfl,by omega,?_,?_,?_,HF5.out,?_,HB5.out.trans hB6,⟨HT5.out.sp.trans (T:=fun k=>k<bN) ⟨hkb'.os,hkb'.tape,hkb'.output,hkb'.size,fun k _ hk=>hkb'.block k hk⟩ (fun k hk _=>by omega),fun k c h=>hkb'.bytes k c (HT5.out.bytes k c h)⟩,?_,by omega⟩,by simp[intOf];omega⟩
    ·rw[yN,←HND.out];exact hlo'
    ·intro g hg h;rcases hat' with h2|h2
     ·rw[h2]at hg;exact HOF5.out g hg h
     ·have:=h2 g hg;have:=(HLT5.out g h).2;omega
    ·rw[jO,←HCD.out];exact HS.out.keep HI5.out hB6 hF6 hkb'.bytes
    ·exact HD5.out.tend hkb'.bytes (fun g hg=>by
      simp only[Value.ownBlock,Option.some.injEq]at hg;subst hg;exact hkb'.block dg (by omega))
    ·exact(hkb'.block b0 (by omega)).trans HR5.out
   obtain rfl:j=D.length:=by omega
   rw[←HCR.out]at hI;rw[←HLR.out]at ho;obtain⟨a8,c8,rfl,ho2,ho3, -⟩:=id ho.hold;have HO:=hid ho;have HI2:=hid hI;have HFF2:=hid (show ∀k,F' k→F0 k∨b0<k from fun k hk=>by
    rcases hFF' k hk with h|h
    ·exact HFF.out k h
    ·exact .inr (by omega))
   have HB2:=hid hb;have HT2:=hid ht;have HLT:=hid (HS.out.lt hI);clear ho hoF hI hFF' hd hb ht
   cases rt
   case true=>
    go_wp2_with fail
    exact Bp (results_none rfl _ _ _) rfl ⟨rfl,⟨r,F',⟨((HRT.out true rfl).1 rfl).1,((HRT.out true rfl).1 rfl).2,HNO.out⟩,by rw[HACE.out,HCRE.out];exact HI2.out,fun k hk=>by
     rcases HFF2.out k hk with h|h
     ·exact .inl h
     ·exact .inr (by omega)⟩,HB2.out,HT2.out⟩
   case false=>
    obtain⟨l1,l2,l3⟩:=HLVF.out;have hfl:=yx l3;have hle:=HLEN.out;have HRZ:=hid ((HRT.out false rfl).2 rfl);have HAB:=hid (qbJ t HT.out.v (r+1) (by omega) _ _ wr HO.out.hold (by omega) (by omega) l1);have hjw:IntKind.i64.wrap ((r:Int)+1)=((r+1:Nat):Int):=by rw[IntKind.wrap_i64]<;>omega
    have hr1:((r:Int)+1)≤t.p - 1:=by
     by_cases h0:r=0
     ·omega
     ·by_cases h1:(r:Int)=t.p - 1
      ·have h2:=HRZ.out (by omega);rw[YF h1]at h2
       cases h2
      ·omega
    have hcr1:CR≠[]:=by
     rw[HCR.out];exact List.length_pos_iff.1 (by rw[qq];omega)
    have HCR1:=hid hcr1;obtain⟨HU1,HU2⟩:=HUP.out (r+1) rfl;have HU1:=hid HU1;have HU2:=hid HU2;generalize t.lvlZ kz z1 z2 (t.leafZ kz z1 z2 zs) r=LZ at*;obtain⟨M,hM⟩:=Ex LZ.length;rw[hM]at HAB HU2⊢;clear l1 l2 l3 hfl hle hcr1 ho2 ho3 hM;go_wp2_with ((with_reducible show wpList _ _ _ (Oper.mk _ (Op.load 26 _) _ _ _ _::_) _ _);refine wpList_load_row rfl 26 _ rfl b0 rfl _ _ _ _ hrr Tryz.underlying26 rfl (by kernel_rfl) ?_)
    refine HAB.out.mono ?_;rintro e w9 ⟨u,rfl,hu,hb9⟩;have hs9:=hb9.size;have hk9:=KB.of_below hb9 (Nat.zero_le _);have hw0r:w0.heap.size≤wr.heap.size:=by have:=(HW.out.trans HB2.out).size;omega
    have HB9:=hid hb9;have HR9:=hid (qb hrr hb9);have HU9:=hid hu;obtain⟨ua,uc,rfl, -, -, -⟩:=id hu.hold;have HUB:=hid (show ∀g,(Value.slice ua (t.upZ (r+1) LZ).length uc).ownBlock=some g→wr.heap.size≤g from fun g hg=>by
     obtain⟨vs,hvo, -⟩:=hu;rcases hvo.2 with⟨e, -⟩|⟨g',cap,cur,e,h1, -⟩
     ·simp only[Value.slice.injEq]at e;rw[e.1]at hg;cases hg
     ·simp only[Value.slice.injEq]at e;rw[e.1]at hg;simp only[Value.ownBlock,Option.some.injEq]at hg;omega)
    clear hu hb9;go_wp2_with fail
    refine⟨⟨r+1,F',rfl,by omega,by rw[HU2.out],by rw[HU1.out];exact HU9.out.le hw0r,fun g hg h=>by have:=HUB.out g hg;have:=(HLT.out g h).2;omega,?_,HFF2.out,fun q' h1 h2=>?_,HB2.out.trans (HB9.out.mono hw0r),⟨HT2.out.sp.trans (Spare.of_below (fun k=> ¬F0 k) HB9.out) (fun _ _ h=>h),fun k c h=>hk9.bytes k c (HT2.out.bytes k c h)⟩,HR9.out⟩,by simp[intOf];omega⟩
    ·rw[HAS.out];exact HS.out.keep (HS.out.next HCR1.out HI2.out) (HB9.out.mono hw0r) (fun k hk=>HB9.out.block k (HLT.out k hk).2) hk9.bytes
    ·by_cases hq:q'=r
     ·subst hq;exact HRZ.out h1
     ·exact HNO.out q' h1 (by omega)
theorem qaq {ops:Array Oper}{rest:List Oper}{o:Oper}{a:Act}{Q:Exit→Act→World→Prop}{w0 W:World}(hgd:o.guard=none)(s x:Operand)
  (ho:o.op= .call { callee:= .builtin .append,args:= #[s,x],argTypes:= #[47,47] }) (B:Nat) (v:Value) (S:List CallS) (z:CallS) (c:List Value) (hs:a.eval s=v) (hl:CallsO w0 B W v S) (hz:CallAt w0 B W z c) (hc6:c.length=6) (hc1: ∀u∈c,u.oneCell'=true)
  (hx:a.eval x= .slice (some ⟨W.heap.size,0,none⟩) 1 1) (h63:S.length≤1099511627776) (hw0:w0.heap.size≤B) (hB:B≤W.heap.size) (T:TypeId)
  (h: ∀v' w',CallsO w0 B w' v' (S++[z])→KB B W w'→Spare (fun k=>v.ownBlock≠some k) W w'→(v'.ownBlock=v.ownBlock∨ ∀g,v'.ownBlock=some g→W.heap.size≤g)→wpList Tryz.prog ops Q rest (a.put o.dst v') w'):wpList Tryz.prog ops Q (o::rest) a (W.alloc (.cells c.toArray T)):=by
 obtain⟨ic,hic,hzc,hsc,hbc⟩:=info_parts qac;obtain⟨cs,hcl,hown,hxs⟩:=hl;refine wpList_append_own_at _ hgd s x _ ho B 40 ic _ 6 96 Tryz.underlying47 hic hzc hsc hbc rfl (by decide) v S.length cs.flatten hs (hown.alloc _) ⟨W.heap.size,0,none⟩ 1 1 c hx (by omega) (fun j u hj=>?_) hc1 (by unfold maxLen;omega) (by omega) (by simp;omega) fun v' w' h2 h3 _ h5=>?_
 ·rw[Go.WideShapes.add_plain,qa (Wn W _) (0+j),Nat.zero_add];simpa using hj
 have hsp:Spare (fun k=>v.ownBlock≠some k) W w':=(Spare.of_below _ (Br.alloc Nl _)).trans (Spare.of_grown h3) (fun _ _ h=>h);have hkb:KB B W w':=⟨hsp.os,hsp.tape,hsp.output,hsp.size,fun k hk=>hsp.block k (by omega) (fun e2=>by
   rcases hown.2 with⟨rfl, -⟩|⟨g,cap,cur,rfl,h4, -⟩
   ·cases e2
   ·simp only[Value.ownBlock,Option.some.injEq]at e2;omega),fun k c hc=>by
   rw[hsp.block k (Ai hc).1 (fun e2=>?_)]
   ·exact hc
   ·rcases hown.2 with⟨rfl, -⟩|⟨g,cap,cur,rfl, -,h5, -⟩
    ·cases e2
    ·simp only[Value.ownBlock,Option.some.injEq]at e2;subst e2;rw[h5]at hc;simp only[Option.some.injEq,Obj.cells.injEq]at hc;exact absurd hc.2.1 (by decide)⟩
 refine h v' w' (CallsO.snoc (w:=W) (cs:=cs) hxs hcl hz h2 hw0 hkb) hkb hsp ?_;rcases h5 with h5|h5
 ·exact .inl h5
 ·exact .inr fun g hg=>by rw[h5]at hg;simp only[World.alloc,Array.size_push,Option.some.injEq]at hg;omega
def qe7 (w0:World)(bl:Nat)(done:List (List CallS))(cur:List CallS)(F:Nat→Prop)(w:World):Prop:=
 ∃lv,w.heap[bl]? =some (.cells #[lv] 47 (0,0))∧w0.heap.size≤bl∧CallsO w0 w0.heap.size w lv (done.flatten++cur)∧ ∀k,F k↔k=bl∨lv.ownBlock=some k
theorem qcS {w0 w:World}{bl:Nat}{done:List (List CallS)}{cur:List CallS}{F:Nat→Prop}(h:qe7 w0 bl done cur F w): ∀k,F k→w0.heap.size≤k∧k<w.heap.size:=by
 obtain⟨lv,h1,h2,⟨cs, -,ho, -⟩,h4⟩:=h;intro k hk;rcases(h4 k).1 hk with rfl|hk
 ·exact⟨h2,(Ai h1).1⟩
 ·refine⟨?_,yS ho k hk⟩;rcases ho.2 with⟨rfl, -⟩|⟨g,cap,cur,rfl,h5, -⟩
  ·cases hk
  ·simp only[Value.ownBlock,Option.some.injEq]at hk;omega
theorem Jp: ∀{L:List (List CallS)} {n:Nat},(∀l∈L,l.length≤n)→L.flatten.length≤n*L.length
 | [],_,_=>Nat.zero_le _
 | l::L,n,h=>by
  have h1:=h l (List.mem_cons_self ..);have h2:=Jp (L:=L) (n:=n) (fun x hx=>h x (List.mem_cons_of_mem _ hx));simp only[List.flatten_cons,List.length_append,List.length_cons,Nat.mul_add,Nat.mul_one];omega
theorem j8 {t:TreeV}{kz z1 z2:List Int}{w0:World}(hT:TreeOk t kz z1 z2 w0)(bl:Nat):Seer t kz z1 z2 w0 37 bl (qe7 w0 bl):=by
 refine⟨fun h=>qcS h,fun h hb hF hB=>?_,fun hc h=>?_,fun h hrow hr hi hdl hcl hw hbo hko hdo hd=>?_⟩
 ·obtain⟨lv,h1,h2,h3,h4⟩:=h;exact⟨lv,by rw[hF bl ((h4 bl).2 (.inl rfl))];exact h1,h2,h3.kb Nl ⟨hb.os,hb.tape,hb.output,hb.size,hb.block,hB⟩ (fun g hg=>hF g ((h4 g).2 (.inr hg))),h4⟩
 ·obtain⟨lv,h1,h2,h3,h4⟩:=h;exact⟨lv,h1,h2,by simpa using h3,h4⟩
 ·rename_i done cur F w row i la rt d bv kv dv;have hlt:=qcS h;obtain⟨lv,h1,h2,h3,h4⟩:=h;obtain⟨b0,hb0⟩:=Ex w.heap.size;have hblw:bl<w.heap.size:=(Ai h1).1;have hw0:w0.heap.size≤b0:=by have:=hw.size;omega
  obtain⟨a1,n1,c1,rfl⟩:=qs hbo;obtain⟨a2,n2,c2,rfl⟩:=qs hko;obtain⟨a3,c3,rfl, -, -⟩:=hdo.hold.slice;have hdl3:=hdl;obtain⟨cs0, -,hlo, -⟩:=id h3;obtain⟨la1,ln1,lc1,rfl⟩:=Zp hlo;have hfl:(done.flatten++cur).length≤1099511627776:=by
   have:=Jp (n:=8388608) hdl
   have h5:8388608*done.length≤8388608*255:=Nat.mul_le_mul_left _ (by omega);rw[List.length_append];omega
  have hkb: ∀z∈zm row kz,0≤z∧z≤255:=fun z hz=>by
   unfold zm at hz;split at hz
   ·exact hT.k.1 z hz
   ·cases hz
  have hok:=hT.okD (row:=row) (at_:=i) hr (by omega);have hcz:CallAt w0 w0.heap.size w (t.callS kz z1 z2 row i la rt d) [.int .i64 t.k,.slice a1 n1 c1,.slice a2 n2 c2,.bool la,.int .i64 (t.outN rt),.slice a3 d.length c3]:=
   ⟨_,_,_,_,_,_,_,_,_,rfl,⟨hok.2.2.1,yW hbo⟩,.inl ⟨hkb,yW hko⟩,.inl hdo⟩
  have hbA:Below b0 w (w.alloc (.cells #[.int .i64 t.k,.slice a1 n1 c1,.slice a2 n2 c2,.bool la,.int .i64 (t.outN rt),.slice a3 d.length c3] 40)):=by rw[←hb0];exact Br.alloc Nl _
  have hrA:=Wn w (.cells #[.int .i64 t.k,.slice a1 n1 c1,.slice a2 n2 c2,.bool la,.int .i64 (t.outN rt),.slice a3 d.length c3] 40);rw[hb0]at hrA;have hbAx:=hb0▸hbA;have HOK:=hid hT;have HCA:=hid (hcz.kb Nl (KB.of_below hbAx (by omega)));have HLO:=hid (h3.below (by omega) hbAx);have HBL:=hid ((hbA.block bl (by omega)).trans h1);have HBO:=hid (qf hbo (fun g _ g2=>hbAx.block g g2));have HKO:=hid (qf hko (fun g _ g2=>hbAx.block g g2));have HDO:=hid (hdo.kb (KB.of_below hbAx (Nat.zero_le _)));have H4:=hid h4;have HLT:=hid hlt;have HBA:=hid hbA;have HD:=hid hd;have HR:=hid hrow;clear h1 h3 h4 hlt hbo hko hdo hdl hdl3 hok hcz hbA hbAx hd hw hlo hT hrow;unfold qx;go_enter Tryz.func37,Tryz.ntmps37
  go_upto_region 1 with(fail)
  generalize w.alloc (.cells #[.int .i64 t.k,.slice a1 n1 c1,.slice a2 n2 c2,.bool la,.int .i64 (t.outN rt),.slice a3 d.length c3] 40)=wA at*;have c0:wA.cell? ⟨bl,0,none⟩=some (.slice la1 ln1 lc1):=qa HBL.out 0;have hsA:b0<wA.heap.size:=(Ai hrA).1;have hblA:bl<wA.heap.size:=by omega
  have f0:=frozen_of_row wA bl 0 _ _ HBL.out;have hw0A:w0.heap.size≤wA.heap.size:=by omega
  have hne:(Value.slice la1 ln1 lc1).ownBlock≠some bl:=fun e=>by
   obtain⟨cs1, -,ho, -⟩:=HLO.out;rcases ho.2 with⟨e1, -⟩|⟨g,cap,cur,e1, -,h5, -⟩
   ·rw[e1]at e;cases e
   ·rw[e1]at e;simp only[Value.ownBlock,Option.some.injEq]at e;subst e;rw[HBL.out]at h5;simp only[Option.some.injEq,Obj.cells.injEq]at h5;exact absurd h5.2.1 (by decide)
  go_upto_region 2 with(first|((with_reducible show wpList _ _ _ (Oper.mk _ (Op.load 40 _) _ _ _ _::_) _ _);refine wpList_load_row rfl 40 _ rfl b0 rfl _ _ _ _ hrA Tryz.underlying40 rfl (by kernel_rfl) ?_)|((with_reducible show wpList _ _ _ (Oper.mk _ (Op.buildSlice _ _ _) _ _ _ _::_) _ _);refine JL rfl _ rfl _ _ _ _ _ _ rfl ?_)|(at_builtin;refine qaq (w0:=w0) rfl _ _ rfl w0.heap.size (.slice la1 ln1 lc1) (done.flatten++cur) _ [.int .i64 t.k,.slice a1 n1 c1,.slice a2 n2 c2,.bool la,.int .i64 (t.outN rt),.slice a3 d.length c3] rfl HLO.out HCA.out rfl (by simp[Value.oneCell']) rfl (by omega) Nl (by omega) _ ?_;intro v' w' hlo' hkb' hsp' hat';have hbl':=(hsp'.block bl (by omega) hne).trans HBL.out;obtain⟨cs1, -,hcr1, -⟩:=id hlo';obtain⟨av,nv,cv,rfl⟩:=Zp hcr1;have c0':w'.cell? ⟨bl,0,none⟩=some (.slice la1 ln1 lc1):=qa hbl' 0;have f0':=frozen_of_row w' bl 0 _ _ hbl';have s0':bl<w'.heap.size:=(Ai hbl').1))
  refine qj ?_;intro X hX;have hle6:=hkb'.size;have hlvb: ∀g,(Value.slice la1 ln1 lc1).ownBlock=some g→g<b0:=fun g hg=>by
   obtain⟨cs1, -,ho, -⟩:=HLO.out;have h5:=(H4.out g).2 (.inr hg);have:=(HLT.out g h5).2
   omega
  have hkX:KB w0.heap.size w' X:=by rw[hX];exact KB.of_but ((But.refl bl _).set 0 _) (by omega) h2 hbl' (by decide)
  have hXB:X.heap[bl]? =some (.cells #[.slice av nv cv] 47 (0,0)):=by rw[hX];exact heap_setCell_same _ bl 0 _ _ _ hbl'
  have hXL:CallsO w0 w0.heap.size X (.slice av nv cv) (done.flatten++cur++[t.callS kz z1 z2 row i la rt d]):=by
   refine hlo'.kb Nl hkX (fun g hg=>?_);rw[hX];refine heap_setCell_other _ _ _ _ (fun e=>?_);rw[show g=bl from e]at hg;rcases hcr1.2 with⟨e1, -⟩|⟨g2,cap,cur2,e1, -,h5, -⟩
   ·rw[e1]at hg;cases hg
   ·rw[e1]at hg;simp only[Value.ownBlock,Option.some.injEq]at hg;subst hg;rw[hbl']at h5;simp only[Option.some.injEq,Obj.cells.injEq]at h5;exact absurd h5.2.1 (by decide)
  have hrX:X.heap[b0]? =some (.cells #[.int .i64 t.k,.slice a1 n1 c1,.slice a2 n2 c2,.bool la,.int .i64 (t.outN rt),.slice a3 d.length c3] 40 (0,0)):=by
   rw[hX];refine(heap_setCell_other _ _ _ _ (show b0≠bl by omega)).trans ((hsp'.block b0 hsA (fun e=>?_)).trans hrA);have:=hlvb b0 e
   omega
  have hkAX:=hkb'.trans hkX;have HBX:=hid (qd1 HBO.out hkAX);have HKX:=hid (qd1 HKO.out hkAX);have HDX:=hid (HDO.out.kb hkAX);have hspX:Spare (fun k=> ¬F k) w X:=by
   refine(Spare.of_below (fun k=> ¬F k) (hb0▸HBA.out)).trans (T:=fun k=>k≠bl∧(Value.slice la1 ln1 lc1).ownBlock≠some k) ?_ (fun k _ hk=>⟨fun e=>hk ((H4.out k).2 (.inl e)),fun e=>hk ((H4.out k).2 (.inr e))⟩);rw[hX];refine⟨hsp'.os,hsp'.tape,hsp'.output,by simp[World.setCell];omega,fun k hk hs=>?_⟩;exact(heap_setCell_other _ _ _ _ hs.1).trans (hsp'.block k hk hs.2)
  have hbyX: ∀(k:Nat) (c:Array Value),w.heap[k]? =some (.cells c 5 (0,0))→X.heap[k]? =some (.cells c 5 (0,0)):=fun k c h=>hkAX.bytes k c ((KB.of_below (hb0▸HBA.out) (Nat.zero_le _)).bytes k c h)
  have hsX:b0≤X.heap.size:=by have:=hkAX.size;omega
  have HXB:=hid hXB;have HXL:=hid hXL;have HSPX:=hid hspX;have HBYX:=hid hbyX;have HLV':=hid (show ∀g,(Value.slice av nv cv).ownBlock=some g→F g∨b0≤g from fun g hg=>by
   rcases hat' with h|h
   ·rw[h]at hg;exact .inl ((H4.out g).2 (.inr hg))
   ·exact .inr (by have:=h g hg;omega))
  clear hX hle6 hlvb hkX hXB hXL hkAX hspX hbyX hlo' hkb' hsp' hat' hcr1 hbl' c0' f0' s0' c0 f0 hne hrA HBL HLO HCA HBO HKO HDO;go_wp2_with ((with_reducible show wpList _ _ _ (Oper.mk _ (Op.load 40 _) _ _ _ _::_) _ _);refine wpList_load_row rfl 40 _ rfl b0 rfl _ _ _ _ hrX Tryz.underlying40 rfl (by kernel_rfl) ?_)
  refine(qaF HOK.out (row:=row) (at_:=i) hr (by omega) la rt d (.slice a3 d.length c3) (.slice a1 n1 c1) (.slice a2 n2 c2) X _ HBX.out HKX.out HDX.out.hold HD.out).mono ?_;rintro e w9 ⟨u,rfl,hu,hb9⟩;have HU:=hid (hu.le hsX);have HB9:=hid hb9;clear hu hb9 hrX;go_wp2
  go_ret
  have hk9:=KB.of_below HB9.out (Nat.zero_le _);refine⟨_,fun k=>k=bl∨(Value.slice av nv cv).ownBlock=some k,rfl,by rw[hb0];exact HU.out,?_,⟨_,qb HXB.out HB9.out,h2,?_,fun k=>Iff.rfl⟩,⟨HSPX.out.trans (Spare.of_below _ HB9.out) (fun _ _ h=>h),fun k c h=>hk9.bytes k c (HBYX.out k c h)⟩⟩
  ·rintro k (rfl|hk)
   ·exact .inl ((H4.out _).2 (.inl rfl))
   ·rcases HLV'.out k hk with h|h
    ·exact .inl h
    ·exact .inr (by omega)
  ·rw[←List.append_assoc];exact HXL.out.below (by omega) HB9.out
theorem qdA (t:TreeV)(v:Value)(w:World)(h:t.validE≠0):
  Calls Tryz.prog 18 #[t.val,v] w fun e w'=>e= .returned (.tuple #[.slice none 0 0,.int .i64 t.validE])∧Below w.heap.size w w':=by
 obtain⟨b0,hb0⟩:=Ex w.heap.size;have HVL:=hid (QC t);have hbA:Below b0 w (w.alloc (.cells #[.int .i64 t.k,.int .i64 t.d,.int .i64 t.f,.int .i64 t.p,.int .u32 t.l,.int .i64 t.i,.slice t.ka t.kl t.kc,.slice t.sa t.sl t.sc,.slice t.pa t.pl t.pc] 26)):=by rw[←hb0];exact Br.alloc Nl _
 have hrA:=Wn w (.cells #[.int .i64 t.k,.int .i64 t.d,.int .i64 t.f,.int .i64 t.p,.int .u32 t.l,.int .i64 t.i,.slice t.ka t.kl t.kc,.slice t.sa t.sl t.sc,.slice t.pa t.pl t.pc] 26);rw[hb0]at hrA;generalize t.validE=ev at*;have hq:(ev != 0)=true:=by rw[bne_iff_ne];exact h
 clear h;unfold TreeV.val at*;go_enter Tryz.func18,Tryz.ntmps18
 go_upto_region 1 with(fail)
 generalize w.alloc (.cells #[.int .i64 t.k,.int .i64 t.d,.int .i64 t.f,.int .i64 t.p,.int .u32 t.l,.int .i64 t.i,.slice t.ka t.kl t.kc,.slice t.sa t.sl t.sc,.slice t.pa t.pl t.pc] 26)=wA at*;go_wp2_with ((with_reducible show wpList _ _ _ (Oper.mk _ (Op.load 26 _) _ _ _ _::_) _ _);refine wpList_load_row rfl 26 _ rfl b0 rfl _ _ _ _ hrA Tryz.underlying26 rfl (by kernel_rfl) ?_)
 refine(HVL.out wA).mono ?_;rintro e w2 ⟨rfl,hb2⟩;have HB2:=hid (hbA.trans (hb2.mono (by have:=(Ai hrA).1;omega)));clear hrA hbA hb2;go_wp2
 go_ret2
 exact⟨rfl,by rw[hb0];exact HB2.out⟩
theorem qbj (args:Array Value)(W:World):(callFunc 37 args).run Tryz.prog W= .ok (.enter 37 args) W:=by
 simp[callFunc,Tryz.func37,Tryz.f37]
theorem qbw (t:TreeV)(kz z1 z2 zs:List Int)(v:Value)(w:World)(h:TreeOk t kz z1 z2 w)(hv:Hold w v zs)(hn:zs.length≤4194304):
  Calls Tryz.prog 18 #[t.val,v] w fun e w'=> ∃u,e= .returned (.tuple #[u,.int .i64 0])∧(∃R,t.topAt kz z1 z2 (t.leafZ kz z1 z2 zs) R∧CallsO w w.heap.size w' u ((t.allC kz z1 z2 zs R).flatten++t.callsR kz z1 z2 zs R))∧Below w.heap.size w w':=by
 obtain⟨b0,hb0⟩:=Ex w.heap.size;have hvl:=QC t;simp only[h.v]at hvl;have HVL:=hid hvl;have HT:=hid h;have HCU:=hid (fun(W:World) (hb:Below b0 w W)=>qen t h.v h.l zs v W (hv.below (hb0▸hb)) (by omega));have HRO:=hid (fun(bl:Nat) (W:World) (x:Value) (F0:Nat→Prop) (hw:Below w.heap.size w W) (hI:qe7 w bl [] [] F0 W) (hx:ListO w.heap.size W x (yJ t.ln zs)) (hxF: ∀g,x.ownBlock=some g→ ¬F0 g)=>qdQ (j8 h bl) h hn x W F0 hw hI hx hxF qbj);obtain⟨va,vc,rfl, -, -⟩:=hv.slice;have hbA:Below b0 w (w.alloc (.cells #[.int .i64 t.k,.int .i64 t.d,.int .i64 t.f,.int .i64 t.p,.int .u32 t.l,.int .i64 t.i,.slice t.ka t.kl t.kc,.slice t.sa t.sl t.sc,.slice t.pa t.pl t.pc] 26)):=by rw[←hb0];exact Br.alloc Nl _
 have hrA:=Wn w (.cells #[.int .i64 t.k,.int .i64 t.d,.int .i64 t.f,.int .i64 t.p,.int .u32 t.l,.int .i64 t.i,.slice t.ka t.kl t.kc,.slice t.sa t.sl t.sc,.slice t.pa t.pl t.pc] 26);rw[hb0]at hrA;generalize hCZ:yJ t.ln zs=CZ at*;clear h hv hvl hCZ;unfold TreeV.val at*;go_enter Tryz.func18,Tryz.ntmps18
 go_upto_region 1 with(fail)
 generalize w.alloc (.cells #[.int .i64 t.k,.int .i64 t.d,.int .i64 t.f,.int .i64 t.p,.int .u32 t.l,.int .i64 t.i,.slice t.ka t.kl t.kc,.slice t.sa t.sl t.sc,.slice t.pa t.pl t.pc] 26)=wA at*;go_wp2_with ((with_reducible show wpList _ _ _ (Oper.mk _ (Op.load 26 _) _ _ _ _::_) _ _);refine wpList_load_row rfl 26 _ rfl b0 rfl _ _ _ _ hrA Tryz.underlying26 rfl (by kernel_rfl) ?_)
 refine(HVL.out wA).mono ?_;rintro e w2 ⟨rfl,hb2⟩;have hr2:=qb hrA hb2;have hB2:=hbA.trans (hb2.mono (by have:=(Ai hrA).1;omega));have HB2:=hid hB2;have hs2:b0<w2.heap.size:=(Ai hr2).1;clear hrA hbA hb2 hB2;go_upto_region 5 with(fail)
 refine qj ?_;intro V hV;obtain⟨bl,hbl⟩:=Ex w2.heap.size;have hrB:V.heap[bl]? =some (.cells #[.slice none 0 0] 47 (0,0)):=by rw[hV,←hbl];exact Wn _ _
 have hbV:Below bl w2 V:=by rw[hV,←hbl];exact Br.alloc Nl _
 have hrV:V.heap[b0]? =some (.cells #[.int .i64 t.k,.int .i64 t.d,.int .i64 t.f,.int .i64 t.p,.int .u32 t.l,.int .i64 t.i,.slice t.ka t.kl t.kc,.slice t.sa t.sl t.sc,.slice t.pa t.pl t.pc] 26 (0,0)):=(hbV.block b0 (by omega)).trans hr2;have HBV:=hid (HB2.out.trans (hbV.mono (show b0≤bl by omega)));have hsV:bl<V.heap.size:=(Ai hrB).1;have hacc:qe7 w bl [] [] (fun k=>k=bl) V:=⟨.slice none 0 0,hrB,by omega,CallsO.nil _ _ _,fun k=>⟨fun h=> .inl h,fun h=>by
  rcases h with h|h
  ·exact h
  ·cases h⟩⟩
 have HACC:=hid hacc;rw[hbl];have hb0l:b0<bl:=by omega
 clear hV hbV hr2 hbl hrB hacc;refine qA (n:=5) (w0:=V) (B:=V.heap.size) [.v 13 (.agg #[.int .i64 t.k,.int .i64 t.d,.int .i64 t.f,.int .i64 t.p,.int .u32 t.l,.int .i64 t.i,.slice t.ka t.kl t.kc,.slice t.sa t.sl t.sc,.slice t.pa t.pl t.pc]),.v 14 (.agg #[.int .i64 t.k,.int .i64 t.d,.int .i64 t.f,.int .i64 t.p,.int .u32 t.l,.int .i64 t.i,.slice t.ka t.kl t.kc,.slice t.sa t.sl t.sc,.slice t.pa t.pl t.pc]),.v 15 (.slice va zs.length vc),.p 16 (fun u W=>ListO V.heap.size W u CZ),.v 17 (.func (.func 37) #[] #[.pointer (some ⟨bl,0,none⟩)])] (by exact⟨(fun _ _ _ h hb=>ListO.below h hb),trivial⟩) Br.drew Nl ?_ ?_
 ·repeat' (with_reducible first|exact qt|refine qn ?_ ?_)
  ·intro AA x W hA hW hBW hdep D K hK;have a2:=hA.2 2 (by decide);conv at a2=>rhs;whnf
   clear hdep hA;exact wp_load_row 26 _ rfl b0 a2 _ _ _ _ (qb hrV hW) Tryz.underlying26 rfl (by kernel_rfl) (hK _ _ Br rfl)
  ·intro AA x W hA hW hBW hdep D K hK;have a2:=hA.2 2 (by decide);conv at a2=>rhs;whnf
   clear hdep hA;exact wp_load_row 26 _ rfl b0 a2 _ _ _ _ (qb hrV hW) Tryz.underlying26 rfl (by kernel_rfl) (hK _ _ Br rfl)
  ·intro AA x W hA hW hBW hdep D K hK;have a1:=hA.2 1 (by decide);conv at a1=>rhs;whnf
   clear hdep hA;go_simp
   exact hK _ _ Br rfl
  ·intro AA x W hA hW hBW hdep _ K hK;have g14:=gv hA hdep 1 14;have g15:=gv hA hdep 2 15;clear hdep hA;go_simp
   refine(HCU.out W (HBV.out.trans (hW.mono (by omega)))).mono ?_;rintro e w5 ⟨u,rfl,ho,hb5⟩;exact hK _ _ hb5 (ho.le hBW)
  ·intro AA x W hA hW hBW hdep D K hK;have a7:=hA.2 7 (by decide);conv at a7=>rhs;whnf
   clear hdep hA;go_simp
   exact hK _ _ Br rfl
 intro x W hW hBW hall;obtain⟨e16, -⟩:=hall;change (fun u W=>ListO V.heap.size W u CZ) (x 16) W at e16
 refine qh ?_;simp only[Qi,Act.put,Ls];generalize x 16=X at*;have hxF: ∀g,X.ownBlock=some g→ ¬g=bl:=fun g hg e=>by
  obtain⟨vs,ho, -⟩:=e16;rcases ho.2 with⟨rfl, -⟩|⟨g2,cap,cur,rfl,h5, -⟩
  ·cases hg
  ·simp only[Value.ownBlock,Option.some.injEq]at hg;omega
 have hbW:=HBV.out.trans (hW.mono (show b0≤V.heap.size by omega));have hk:=KB.of_below hW (Nat.zero_le _);have hacW:=(j8 HT.out bl).keep HACC.out (hW.mono (show w.heap.size≤V.heap.size by omega)) (fun k hk=>hW.block k (by rw[show k=bl from hk];exact hsV)) hk.bytes;have HR:=hid (HRO.out bl W X (fun k=>k=bl) (by rw[hb0];exact hbW) hacW (by rw[hb0];exact e16.le (by omega)) hxF);have HBW:=hid hbW;have hblW:bl<W.heap.size:=by have:=hW.size;omega
 clear e16 hxF hbW hk hacW HRO HACC hrV;go_wp2_with fail
 refine HR.out.mono ?_;rintro e w6 ⟨rfl,⟨R,F',hR,hI, -⟩,hb6, -⟩;go_wp2_with fail
 refine qo ?_;obtain⟨lv,l1,l2,l3, -⟩:=hI;obtain⟨cs0, -,hlo, -⟩:=id l3;obtain⟨la1,ln1,lc1,rfl⟩:=Zp hlo;have c0:w6.cell? ⟨bl,0,none⟩=some (.slice la1 ln1 lc1):=qa l1 0;have s0:bl<w6.heap.size:=(Ai l1).1;have HL3:=hid l3;have HB6:=hid hb6;have HTOP:=hid hR;clear l1 l3 hb6 hR hlo;go_wp2
 go_ret2
 exact⟨_,rfl,⟨R,HTOP.out,HL3.out⟩,(show Below w.heap.size w W by rw[hb0];exact HBW.out).trans HB6.out⟩
end Go.Proofs.YtdndeffmlhaipaaGreatDoor
