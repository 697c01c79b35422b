/- Whole lists behind lists; all levels of calls, by the reference. No condition. -/
import Derived.Test.YtdndeffmlhaipaaGreatC37
import Derived.Test.YtdndeffmlhaipaaGreatC36
import Derived.Test.YtdndeffmlhaipaaGreatC32
set_option linter.all false
set_option maxRecDepth 100000
set_option maxHeartbeats 8000000
namespace Go.Proofs.YtdndeffmlhaipaaGreat
open Go.ChangeShapes Go.WideShapes Go.ChangeAt Go.RowKit Go.Joins Go.Shelf Go.Maps
open Go.Lib (hid)
attribute [local go_sem] Oper.semAt_some
theorem qib {W:World}{B T s n:Nat}{v:Value}{xs:List Value}(h:W.ownsRow B T s v n xs)(hn:0<n): ∃g cap,v= .slice (some ⟨g,0,none⟩) n cap∧B≤g∧g<W.heap.size∧ ∀j u,xs[j]? =some u→W.cell? ⟨g,j,none⟩=some u:=by
 rcases h.2 with⟨-,rfl⟩|⟨g,cap,cur,rfl,h1,h2,h3,h4,h5,h6⟩
 ·omega
 ·refine⟨g,cap,rfl,h1,(Ai h2).1,fun j u hu=>(qa h2 j).trans ?_⟩;rw[←h6,List.getElem?_take]at hu;split at hu
  ·rw[←Array.getElem?_toList];exact hu
  ·cases hu
theorem qdl {P:Program}{ops:Array Oper}{rest:List Oper}{o:Oper}{a:Act}{Q:Exit→Act→World→Prop}{W:World}(hgd:o.guard=none)(s x:Operand)(t:TypeId)
 (ho:o.op= .call { callee:= .builtin .append,args:= #[s,x],argTypes:= #[t,t] }) (B:Nat) (e:TypeId) (he:e≠5) (i:TypeInfo) (z:Value) (size bytes:Nat) (ht:P.underlying t=some (.slice e)) (hi:P.info? e=some i) (hz:i.zero=some z)
 (hsize:i.size=size) (hby:i.bytes=bytes) (hzs:z.cells.size=size) (hsz:0<size) (v:Value) (n:Nat) (xs:List Value) (hs:a.eval s=v) (hown:W.ownsRow B e size v n xs)
 (B2:Nat) (y:Value) (m:Nat) (ys:List Value) (hx:a.eval x=y) (hy:W.ownsRow B2 e size y m ys) (hm:0<m) (h1: ∀u∈ys,u.oneCell'=true) (h63:n+m≤maxLen) (hbytes:(n+m)*bytes≤140737488355328) (hB:B≤W.heap.size)
 (h: ∀v' w',w'.ownsRow B e size v' (n+m) (xs++ys)→KB B W w'→Spare (fun k=>v.ownBlock≠some k) W w'→(v'.ownBlock=v.ownBlock∨v'.ownBlock=some W.heap.size)→wpList P ops Q rest (a.put o.dst v') w'):wpList P ops Q (o::rest) a W:=by
 obtain⟨g,cap,rfl,hg1,hg2,hg3⟩:=qib hy hm;refine wpList_append_own_at _ hgd s x t ho B e i z size bytes ht hi hz hsize hby hzs hsz v n xs hs hown ⟨g,0,none⟩ m cap ys hx hy.1 (fun j u hj=>?_) h1 h63 hbytes hB fun v' w' h2 h3 _ h5=>?_
 ·rw[Go.WideShapes.add_plain,Nat.zero_add];exact hg3 j u hj
 have hsp:Spare (fun k=>v.ownBlock≠some k) W w':=Spare.of_grown h3;refine h v' w' h2 ⟨hsp.os,hsp.tape,hsp.output,hsp.size,fun k hk=>hsp.block k (by omega) (fun e2=>?_),fun k c hc=>?_⟩ hsp h5
 ·rcases hown.2 with⟨rfl, -⟩|⟨g,cap,cur,rfl,h4, -⟩
  ·cases e2
  ·simp only[Value.ownBlock,Option.some.injEq]at e2;omega
 ·rw[hsp.block k (Ai hc).1 (fun e2=>?_)]
  ·exact hc
  ·rcases hown.2 with⟨rfl, -⟩|⟨g,cap,cur,rfl, -,h5, -⟩
   ·cases e2
   ·simp only[Value.ownBlock,Option.some.injEq]at e2;subst e2;rw[h5]at hc;simp only[Option.some.injEq,Obj.cells.injEq]at hc;exact he hc.2.1
theorem qdP {α:Type}(L M:List α)(d:α)(i:Nat):(L++M).getD i d=if i<L.length then L.getD i d else M.getD (i - L.length) d:=by
 simp only[Lg];split
 ·rename_i h;rw[List.getElem?_append_left h]
 ·rename_i h;rw[List.getElem?_append_right (by omega)]
theorem qhm {w0 w w':World}{B:Nat}{v v':Value}{S Z:List (List CallS)}{vs ys:List Value}(ho:w.ownsRow B 75 1 v S.length vs)(hx: ∀i,i<S.length→CallsO w0 B w (vs.getD i undef) (S.getD i []))(hy:ys.length=Z.length)(hyx: ∀i,i<Z.length→CallsO w0 B w (ys.getD i undef) (Z.getD i []))
 (ho':w'.ownsRow B 75 1 v' (S.length+Z.length) (vs++ys)) (hb:w0.heap.size≤B) (hk:KB B w w') (hsp:Spare (fun k=>v.ownBlock≠some k) w w'):LevO w0 B w' v' (S++Z):=by
 have hl:vs.length=S.length:=by have:=ho.1;simpa using this
 have one: ∀u S,CallsO w0 B w u S→CallsO w0 B w' u S:=fun u S h=>by
  refine h.kb hb hk fun g hg=>?_
  obtain⟨cs, -,h2, -⟩:=h;exact YA ho h2 (by decide) hsp g hg
 refine⟨vs++ys,by simpa using ho',fun i hi=>?_⟩;simp only[List.length_append]at hi;rw[qdP,qdP,hl];split
 ·rename_i h;exact one _ _ (hx i h)
 ·rename_i h;exact one _ _ (hyx (i - S.length) (by omega))
theorem CallsO.one {w0 w:World}{B:Nat}{v:Value}{S:List CallS}(h:CallsO w0 B w v S):v.oneCell'=true:=by
 obtain⟨cs, -,ho, -⟩:=h;obtain⟨a,n,c,rfl⟩:=QW ho;rfl
theorem TreeV.lvls_all (t:TreeV)(kz z1 z2 zs:List Int)(m:Nat):[t.rowC kz z1 z2 0 false (QP t.ln zs) (QP t.ln zs).length]++t.lvlsC kz z1 z2 (t.leafZ kz z1 z2 zs) m=t.allC kz z1 z2 zs (m+1):=by
 induction m with
 | zero=>rfl
 | succ m ih=>rw[zY,TreeV.allC_succ,←ih,List.append_assoc];rfl
theorem qcg (t:TreeV)(kz z1 z2 zs:List Int)(v:Value)(w0 w:World)(h:TreeOk t kz z1 z2 w0)(hv:Hold w0 v zs)(hw:Below w0.heap.size w0 w)(hn:zs.length≤4194304):
  Calls Tryz.prog 67 #[t.val,v] w fun e w'=> ∃u,e= .returned (.tuple #[u,.int .i64 0])∧LevO w0 w.heap.size w' u (t.allC kz z1 z2 zs ((t.rowsOf zs.length).length - 1+1))∧Below w.heap.size w w':=by
 obtain⟨b0,hb0⟩:=Ex w.heap.size;have hw0:w0.heap.size≤b0:=by have:=hw.size;omega
 obtain⟨il,hil,hzl,hsl,hbl⟩:=info_parts Zd;have hvl:=fun W:World=>Zw t W
 simp only[h.v]at hvl;have HVL:=hid hvl;have he:=Qz h.v hn;have hLF:=qY h.v h.l kz z1 z2 zs;have hLR:=yG h.v h.l kz z1 z2 zs;have HLE:=hid (fun(W:World) (hb:Below b0 w W)=>qam t kz z1 z2 zs v w0 W h he hv (hw.trans (hb.mono hw0)) hn);have HAB:=hid (fun(W:World) (x:Value) (hx:ListH W x (t.leafZ kz z1 z2 zs)) (hb:Below b0 w W)=>qbt t kz z1 z2 zs.length (t.leafZ kz z1 z2 zs) x w0 W h he hx (hw.trans (hb.mono hw0)) hLR hLF.2.2 (by have:=hLF.2.1;omega) (by omega));have HLZ:=hid (show t.rowZ kz z1 z2 0 false (QP t.ln zs) (QP t.ln zs).length=t.leafZ kz z1 z2 zs from rfl);have hR:=qU he;have hpn:t.pn≤255:=by have:=(qk h.v).2.2.2.2.2.2.2.1;unfold TreeV.pn;omega
 have hlen:=hR.len;have hmost:=hR.most;have HLA:=hid (t.lvls_all kz z1 z2 zs ((t.rowsOf zs.length).length - 1));have hll:=t.lvlsC_length kz z1 z2 (t.leafZ kz z1 z2 zs) ((t.rowsOf zs.length).length - 1);generalize t.allC kz z1 z2 zs ((t.rowsOf zs.length).length - 1+1)=AC at*;generalize t.rowZ kz z1 z2 0 false (QP t.ln zs) (QP t.ln zs).length=RZ at*;generalize t.rowC kz z1 z2 0 false (QP t.ln zs) (QP t.ln zs).length=RC at*;generalize t.lvlsC kz z1 z2 (t.leafZ kz z1 z2 zs) ((t.rowsOf zs.length).length - 1)=LC at*;generalize qN (t.lvlZ kz z1 z2 (t.leafZ kz z1 z2 zs) ((t.rowsOf zs.length).length - 1)) 0=Y at*;have hLC1:1≤LC.length:=by omega
 have hLC2:LC.length≤256:=by omega
 obtain⟨va,vc,rfl,hvc1,hvc2⟩:=hv.slice;have hju:IntKind.u64.wrap (zs.length:Int)=(zs.length:Int):=u64_wrap_id _ (by omega) (by omega);have hbA:Below b0 w (w.alloc (.cells #[.int .i64 t.k,.int .i64 t.d,.int .i64 t.f,.int .i64 t.p,.int .u32 t.l,.int .i64 t.i,.slice t.ka t.kl t.kc,.slice t.sa t.sl t.sc,.slice t.pa t.pl t.pc] 26)):=by rw[←hb0];exact Br.alloc Nl _
 have hrA:=Wn w (.cells #[.int .i64 t.k,.int .i64 t.d,.int .i64 t.f,.int .i64 t.p,.int .u32 t.l,.int .i64 t.i,.slice t.ka t.kl t.kc,.slice t.sa t.sl t.sc,.slice t.pa t.pl t.pc] 26);rw[hb0]at hrA;clear h hv hvl he hLF hLR hR hpn hlen hmost hll hw;unfold TreeV.val at*;go_enter Tryz.func67,Tryz.ntmps67
 go_upto_region 1 with(fail)
 generalize w.alloc (.cells #[.int .i64 t.k,.int .i64 t.d,.int .i64 t.f,.int .i64 t.p,.int .u32 t.l,.int .i64 t.i,.slice t.ka t.kl t.kc,.slice t.sa t.sl t.sc,.slice t.pa t.pl t.pc] 26)=wA at*;go_wp2_with ((with_reducible show wpList _ _ _ (Oper.mk _ (Op.load 26 _) _ _ _ _::_) _ _);refine wpList_load_row rfl 26 _ rfl b0 rfl _ _ _ _ hrA Tryz.underlying26 rfl (by kernel_rfl) ?_)
 refine(HVL.out wA).mono ?_;rintro e w2 ⟨rfl,hb2⟩;have hr2:=qc hrA hb2;have hB2:=hbA.trans (hb2.mono (by have:=(Ai hrA).1;omega));have HB2:=hid hB2;clear hrA hbA hb2 hB2;go_wp2_with ((with_reducible show wpList _ _ _ (Oper.mk _ (Op.load 26 _) _ _ _ _::_) _ _);refine wpList_load_row rfl 26 _ rfl b0 rfl _ _ _ _ hr2 Tryz.underlying26 rfl (by kernel_rfl) ?_)
 refine(HLE.out w2 HB2.out).mono ?_;rintro e w3 ⟨cv,u,rfl,hco,hu,hb3⟩;have hr3:=qc hr2 hb3;have hbs:=(Ai hr2).1;have HB3:=hid (HB2.out.trans (hb3.mono (by omega)));have HU:=hid hu.hold;have HCO:=hid (hco.le (show b0≤w2.heap.size by omega));have hs3:=hb3.size;clear hb3 hr2 hu;go_wp2_with ((with_reducible show wpList _ _ _ (Oper.mk _ (Op.load 26 _) _ _ _ _::_) _ _);refine wpList_load_row rfl 26 _ rfl b0 rfl _ _ _ _ hr3 Tryz.underlying26 rfl (by kernel_rfl) ?_)
 refine(HAB.out w3 _ (by rw[←HLZ.out];exact HU.out) HB3.out).mono ?_;rintro e w4 ⟨cv2,y,rfl,hlo,hy,hb4⟩;have hbs3:=(Ai hr3).1;have HB4:=hid (HB3.out.trans (hb4.mono (by omega)));have HLO:=hid (hlo.le (show b0≤w3.heap.size by omega));have HCO4:=hid (HCO.out.below (by omega) hb4);have hs4:=hb4.size;obtain⟨cs, -,hcr, -⟩:=hco;obtain⟨a8,n8,k8,rfl⟩:=QW hcr;clear hb4 hlo hy hr3 hcr;have hbW:Below w4.heap.size w4 (w4.alloc (.cells #[.slice a8 n8 k8] 75)):=Br.alloc Nl _;have hrW:=Wn w4 (.cells #[.slice a8 n8 k8] 75);have hone:(w4.alloc (.cells #[.slice a8 n8 k8] 75)).ownsRow b0 75 1 (.slice (some ⟨w4.heap.size,0,none⟩) 1 1) 1 [.slice a8 n8 k8]:=⟨rfl,.inr ⟨_,1,_,rfl,by omega,hrW,by decide,by decide,rfl,rfl⟩⟩;obtain⟨ws,hwo,hwx⟩:=HLO.out.below (by omega) hbW;have hwl:ws.length=LC.length:=by have:=hwo.1;simpa using this
 obtain⟨bb4,hbb4⟩:=Ex w4.heap.size;rw[show Value.slice (some ⟨w4.heap.size,0,none⟩) 1 1=Value.slice (some ⟨bb4,0,none⟩) 1 1 by rw[hbb4]]at hone;have HONE:=hid hone;have HWO:=hid hwo;have HWX:=hid hwx;have HC5:=hid (HCO4.out.below (by omega) hbW);have HB5:=hid (HB4.out.trans (hbW.mono (by omega)));obtain⟨a9,n9,k9,rfl⟩:=qq hwo;have hw1: ∀u∈ws,u.oneCell'=true:=fun u hu=>by
  obtain⟨i,hi,rfl⟩:=List.mem_iff_getElem.1 hu;have:=hwx i (by omega)
  rw[Lg,Lg,List.getElem?_eq_getElem hi]at this;exact CallsO.one this
 have HW1:=hid hw1;have hss:(w4.alloc (.cells #[.slice a8 n8 k8] 75)).heap.size=bb4+1:=by rw[←hbb4];simp
 clear hone hwo hwx hw1 hbW hrW;go_upto_region 7 with((with_reducible show wpList _ _ _ (Oper.mk _ (Op.buildSlice _ _ _) _ _ _ _::_) _ _);refine jA rfl _ rfl _ _ _ rfl ?_)
 generalize w4.alloc (.cells #[.slice a8 n8 k8] 75)=w5 at*;go_wp2_with (at_builtin;refine qdl rfl _ _ _ rfl b0 75 (by decide) il (.slice none 0 0) 1 24 Tryz.underlying79 hil hzl hsl hbl rfl (by decide) (.slice (some ⟨bb4,0,none⟩) 1 1) 1 [.slice a8 n8 k8] rfl HONE.out b0 (.slice a9 n9 k9) LC.length ws rfl HWO.out (by omega) HW1.out (by unfold maxLen;omega) (by omega) (by omega) ?_;intro v' w' hown' hkb' hsp' hat')
 go_ret2
 refine⟨_,rfl,?_,by rw[hb0];exact HB5.out.trans hkb'.below⟩;rw[←HLA.out,hb0];refine qhm (S:=[RC]) (vs:=[.slice a8 n8 k8]) HONE.out (fun i hi=>?_) hwl HWX.out hown' (by omega) hkb' hsp';obtain rfl:i=0:=by simp at hi;omega
 exact HC5.out
theorem qcT {w:World}{B T n s:Nat}{v:Value}{xs:List Value}(ho:w.ownsRow B T s v n xs): ∀g,v.ownBlock=some g→ ∃c,w.heap[g]? =some (.cells c T (0,0)):=by
 intro g hg;rcases ho.2 with⟨rfl, -⟩|⟨g',cap,cur,rfl, -,h2, -⟩
 ·cases hg
 ·simp only[Value.ownBlock,Option.some.injEq]at hg;subst hg;exact⟨_,h2⟩
theorem CallAt.cells {w0 w:World}{B:Nat}{s:CallS}{c:List Value}(h:CallAt w0 B w s c): ∃bv kv dv,c=[.int .i64 s.k,bv,kv,.bool s.la,.int .i64 s.o,dv]∧Hold w bv s.bs∧Hold w kv s.kz∧Hold w dv s.ds:=by
 obtain⟨a1,n1,c1,a2,n2,c2,a3,n3,c3,rfl,h1,h2,h3⟩:=h;exact⟨_,_,_,rfl,h1.hold,h2.hold,h3.hold⟩
theorem qc4 {α:Type}{n:Nat}: ∀{cs:List (List α)},(∀c∈cs,c.length=n)→ ∀{i j:Nat},i<cs.length→j<n→cs.flatten[i*n+j]? =(cs.getD i [])[j]?
 | [],_,i,j,hi,_=>by simp at hi
 | c::cs,h,i,j,hi,hj=>by
  have hc:=h c (List.mem_cons_self ..)
  cases i with
  | zero=>
   rw[List.flatten_cons,List.getElem?_append_left (by omega),Nat.zero_mul,Nat.zero_add];rfl
  | succ i=>
   have e:(i+1)*n+j - c.length=i*n+j:=by rw[hc,Nat.add_mul];omega
   rw[List.flatten_cons,List.getElem?_append_right (by rw[hc,Nat.add_mul];omega),e];exact qc4 (fun c hc=>h c (List.mem_cons_of_mem _ hc)) (by simpa using hi) hj
theorem CallsO.get {w0 w:World}{B i:Nat}{v:Value}{S:List CallS}{s:CallS}(h:CallsO w0 B w v S)(hi:i<S.length)(hs:S.getD i .zero=s):
  ∃g cap cur bv kv dv,v= .slice (some ⟨g,0,none⟩) S.length cap∧B≤g∧w.heap[g]? =some (.cells cur 54 (0,0))∧(∀j,j<6→cur[i*6+j]? =(#[.int .i64 s.k,bv,kv,.bool s.la,.int .i64 s.o,dv]:Array Value)[j]?)∧Hold w bv s.bs∧Hold w kv s.kz∧Hold w dv s.ds:=by
 obtain⟨cs,hl,ho,hx⟩:=h;rcases ho.2 with⟨-,e⟩|⟨g,cap,cur,rfl,h1,h2,h3,h4,h5,h6⟩
 ·omega
 obtain⟨bv,kv,dv,e,k1,k2,k3⟩:=(hx i hi).cells;rw[hs]at e k1 k2 k3;refine⟨g,cap,cur,bv,kv,dv,rfl,h1,h2,fun j hj=>?_,k1,k2,k3⟩;have h7:=qc4 (n:=6) (cs:=cs) (fun c hc=>by
  obtain⟨q,hq,rfl⟩:=List.mem_iff_getElem.1 hc;obtain⟨_,_,_,e, -⟩:=(hx q (by omega)).cells;rw[Lg (l:=cs),List.getElem?_eq_getElem hq]at e;rw[show cs[q]=_ from e];rfl) (i:=i) (j:=j) (by omega) hj
 rw[e,←h6,List.getElem?_take]at h7;rw[if_pos (by omega)]at h7;rw[←Array.getElem?_toList,h7,←Array.getElem?_toList]
theorem YD {t:TreeV}(h:t.validE=0)(hl:0≤t.l∧t.l≤4294967295)(kz z1 z2 zs:List Int)(r:Nat):1≤(t.callsR kz z1 z2 zs r).length∧(t.callsR kz z1 z2 zs r).length≤zs.length+1:=by
 have:=zM h hl kz z1 z2 zs r
 unfold TreeV.callsR;rw[qy];exact⟨this.1,this.2.1⟩
theorem qaD (t:TreeV)(a1:Option Addr)(c1:Nat)(a2:Option Addr)(c2:Nat)(a3:Option Addr)(c3:Nat)(kz z1 z2 zs:List Int): ∀r,(t.sw a1 c1 a2 c2 a3 c3).callsR kz z1 z2 zs r=t.callsR kz z1 z2 zs r
 | 0=>rfl
 | r+1=>by
  show TreeV.rowC _ _ _ _ _ (TreeV.rootZ _ _ (TreeV.lvlZ _ _ _ _ _ r).length) (TreeV.upZ _ _ (TreeV.lvlZ _ _ _ _ _ r)) (TreeV.upZ _ _ (TreeV.lvlZ _ _ _ _ _ r)).length=_
  rw[zQ];rfl
end Go.Proofs.YtdndeffmlhaipaaGreat
