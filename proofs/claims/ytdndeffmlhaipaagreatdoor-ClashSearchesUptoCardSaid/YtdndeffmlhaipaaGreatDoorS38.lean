/- Row by row up to the root: plain. No condition. -/
import Derived.Test.YtdndeffmlhaipaaGreatDoorS36
import Derived.Test.YtdndeffmlhaipaaGreatDoorS33
set_option linter.all false
set_option maxRecDepth 100000
set_option maxHeartbeats 8000000
namespace Go.Proofs.YtdndeffmlhaipaaGreatDoor
open Go.ChangeShapes Go.WideShapes Go.ChangeAt Go.RowKit Go.Joins Go.Shelf Go.Maps
open Go.Lib (hid)
def TreeV.lvlZ (t:TreeV)(kz z1 z2:List Int)(L0:List (List Int)):Nat→List (List Int)
 | 0=>L0
 | r+1=>t.rowZ kz z1 z2 (r+1) (t.rootZ (r+1) (t.lvlZ kz z1 z2 L0 r).length) (t.upZ (r+1) (t.lvlZ kz z1 z2 L0 r)) (t.upZ (r+1) (t.lvlZ kz z1 z2 L0 r)).length
def TreeV.topAt (t:TreeV)(kz z1 z2:List Int)(L0:List (List Int))(R:Nat):Prop:=1≤R∧t.rootZ R (t.lvlZ kz z1 z2 L0 (R - 1)).length=true∧ ∀q,1≤q→q<R→t.rootZ q (t.lvlZ kz z1 z2 L0 (q - 1)).length=false
theorem Jo {t:TreeV}{kz z1 z2:List Int}{L0:List (List Int)}{R S:Nat}(h:t.topAt kz z1 z2 L0 R)(k:t.topAt kz z1 z2 L0 S):R=S:=by
 rcases Nat.lt_trichotomy R S with h1|h1|h1
 ·have:=k.2.2 R h.1 h1;rw[h.2.1]at this;cases this
 ·exact h1
 ·have:=h.2.2 S k.1 h1;rw[k.2.1]at this;cases this
theorem jR {t:TreeV}{row n:Nat}(h:(row:Int)=t.p - 1):t.rootZ row n=true:=decide_eq_true (.inr (.inl h))
theorem zr {t:TreeV}(h:t.validE=0){row n:Nat}(hr:t.rootZ row n=false):2≤t.fn∧t.fn<n∧t.fn≤255:=by
 have h1:=(qq h).2.2.2.2.2.1;have h2: ¬(t.f=0∨(row:Int)=t.p - 1∨(n:Int)≤t.f):=of_decide_eq_false hr;unfold TreeV.fn;omega
theorem Y7 {t:TreeV}(h:t.validE=0)(row:Nat){L:List (List Int)}(hL:L≠[]):1≤(t.upZ row L).length∧(t.upZ row L).length≤L.length:=by
 have hp:=List.length_pos_iff.2 hL;unfold TreeV.upZ
 cases hr:t.rootZ row L.length with
 | true=>exact⟨Nat.le_refl _,hp⟩
 | false=>
  have:=zr h hr
  rw[if_neg (by simp),Qr];exact⟨jp hp,Yf (by omega)⟩
theorem Zc (t:TreeV)(row:Nat)(L:List (List Int))(i:Nat):(qK (t.upZ row L) i).length≤L.flatten.length:=by
 unfold TreeV.upZ;split
 ·cases i<;>simp[qK]
 ·unfold qK zv;rw[Lg,List.getElem?_map]
  cases(List.range (Qc L.length t.fn))[i]? with
  | none=>simp
  | some j=>exact yQ (jC t.fn L j)
theorem qac (t:TreeV)(kz z1 z2:List Int)(row i:Nat)(la rt:Bool)(d:List Int):(t.node kz z1 z2 row i la rt d).length≤64:=by
 have h1:(YD t.big (h0Z t.big (t.blk z1 z2 row i)) (QY (bB t.big) (zB row kz)++d) la).length=mB t.big:=YS _ _ _ _;have h2:mB t.big≤64:=by cases t.big<;>decide
 unfold TreeV.node jq;rw[List.length_take];omega
theorem zw (t:TreeV)(kz z1 z2:List Int)(row:Nat)(rt:Bool)(L:List (List Int))(m:Nat): ∀z∈t.rowZ kz z1 z2 row rt L m,z.length≤64:=fun z hz=>by
 obtain⟨i, -,rfl⟩:=List.mem_map.1 hz;exact qac ..
theorem Y6: ∀{L:List (List Int)},(∀z∈L,z.length≤64)→L.flatten.length≤64*L.length
 | [],_=>Nat.le_refl _
 | z::L,h=>by
  have h1:=h z (List.mem_cons_self ..);have h2:=Y6 (L:=L) (fun y hy=>h y (List.mem_cons_of_mem _ hy));simp only[List.flatten_cons,List.length_append,List.length_cons];omega
theorem QI {t:TreeV}(h:t.validE=0)(kz z1 z2:List Int){L0:List (List Int)}(h0:L0≠[])(h1: ∀z∈L0,z.length≤64): ∀r,t.lvlZ kz z1 z2 L0 r≠[]∧(t.lvlZ kz z1 z2 L0 r).length≤L0.length∧ ∀z∈t.lvlZ kz z1 z2 L0 r,z.length≤64
 | 0=>⟨h0,Nat.le_refl _,h1⟩
 | r+1=>by
  obtain⟨i1,i2,i3⟩:=QI h kz z1 z2 h0 h1 r;have hu:=Y7 h (r+1) i1;have hl:(t.lvlZ kz z1 z2 L0 (r+1)).length=(t.upZ (r+1) (t.lvlZ kz z1 z2 L0 r)).length:=qr ..;exact⟨List.length_pos_iff.1 (by omega),by omega,fun z hz=>zw _ _ _ _ _ _ _ _ z hz⟩
theorem qfv {n d:Nat}(h1:1≤n)(h2:n≤d):Qc n d=1:=by
 have:=jp (d:=d) h1
 have h3: ¬1<Qc n d:=fun h=>by have:=(zk (n:=n) (d:=d) (j:=1) (by omega)).1 h;omega
 omega
theorem YK {t:TreeV}(hv:t.validE=0){row:Nat}(hr:1≤row){L:List (List Int)}(hL:L≠[]):
  (t.upZ row L).length=Q1 t.fn t.pn row L.length∧(t.rootZ row L.length=true↔Q1 t.fn t.pn row L.length=1):=by
 have hp:=List.length_pos_iff.2 hL;have hvf:=qq hv;have e1:(t.f=0)↔t.fn=0:=by unfold TreeV.fn;omega
 have e2:((row:Int)=t.p - 1)↔row=t.pn - 1:=by unfold TreeV.pn;omega
 unfold TreeV.upZ Q1;by_cases hc:t.fn=0∨row=t.pn - 1
 ·have hrt:t.rootZ row L.length=true:=decide_eq_true (by rcases hc with h|h;exact .inl (e1.2 h);exact .inr (.inl (e2.2 h)));rw[if_pos hrt,if_pos hc];exact⟨rfl,by simp[hrt]⟩
 ·rw[if_neg hc]
  cases hrt:t.rootZ row L.length with
  | true=>
   have h3:t.f=0∨(row:Int)=t.p - 1∨(L.length:Int)≤t.f:=of_decide_eq_true hrt;have h4:L.length≤t.fn:=by unfold TreeV.fn;omega
   rw[qfv hp h4];exact⟨rfl,by simp⟩
  | false=>
   have h3:=zr hv hrt;rw[if_neg (by simp),Qr];refine⟨rfl,by simp,fun h=>?_⟩;have:=qbE (k:=1) (d:=t.fn) (m:=L.length) (by omega) (by omega)
   omega
theorem yV {t:TreeV}{total:Nat}(he:t.err total=0)(kz z1 z2:List Int){L0:List (List Int)}(h0:L0.length=lvs total t.ln)(h1: ∀z∈L0,z.length≤64): ∀r,r<(t.rowsOf total).length→(t.lvlZ kz z1 z2 L0 r).length=nth (t.rowsOf total) r
 | 0,_=>by rw[(QZ he).first];exact h0
 | r+1,hr=>by
  have hv:=yb he;have hL0:L0≠[]:=List.length_pos_iff.1 (by rw[h0];unfold lvs;omega);have ih:=yV he kz z1 z2 h0 h1 r (by omega);have hf:=QI hv kz z1 z2 hL0 h1 r;have hu:=YK hv (row:=r+1) (by omega) hf.1;have hl:(t.lvlZ kz z1 z2 L0 (r+1)).length=(t.upZ (r+1) (t.lvlZ kz z1 z2 L0 r)).length:=qr ..;rw[hl,hu.1,(QZ he).next r hr,ih]
theorem qej {t:TreeV}{total:Nat}(he:t.err total=0)(kz z1 z2:List Int){L0:List (List Int)}(h0:L0.length=lvs total t.ln)(h1: ∀z∈L0,z.length≤64){r:Nat}(hr:r+1<(t.rowsOf total).length){Lb D:List (List Int)}(hLb:t.lvlZ kz z1 z2 L0 r=Lb)(hD:t.upZ (r+1) Lb=D){i:Nat}(hi:i<D.length):
  t.there total ((r+1:Nat):Int) i∧ ∃a b,t.spot total (r+1) i=⟨r+1,i,a,b,decide (i+1=D.length),t.rootZ (r+1) Lb.length⟩∧a≤b∧b≤Lb.length∧qK D i=((Lb.drop a).take (b - a)).flatten:=by
 have hv:=yb he;have hL0:L0≠[]:=List.length_pos_iff.1 (by rw[h0];unfold lvs;omega);have hf:=QI hv kz z1 z2 hL0 h1 r;have hb:=yV he kz z1 z2 h0 h1 r (by omega);have hn:=(QZ he).next r hr;rw[hLb]at hf hb;have hu:=YK hv (row:=r+1) (by omega) hf.1;rw[hb,←hn,hD]at hu;obtain⟨hu1,hu2⟩:=hu;have hp:=List.length_pos_iff.2 hf.1;refine⟨⟨by omega,by rw[Int.toNat_natCast];exact hr,by rw[Int.toNat_natCast,←hu1];exact hi⟩,?_⟩;unfold TreeV.spot JB;rw[Nat.add_sub_cancel,if_neg (by omega: ¬r+1=0),←hb]
 cases hrt:t.rootZ (r+1) Lb.length with
 | true=>
  rw[←hb]at hu2;have h1:=hu2.1 hrt;rw[if_pos ⟨by omega,h1⟩];refine⟨0,Lb.length,?_,Nat.zero_le _,Nat.le_refl _,?_⟩
  ·rw[h1,hu1,h1];congr 1
   rw[decide_eq_decide];omega
  ·have hDe:D=[Lb.flatten]:=by rw[←hD];unfold TreeV.upZ;rw[if_pos hrt]
   have:i=0:=by rw[hDe]at hi;simp at hi;omega
   subst this;rw[hDe,List.drop_zero,Nat.sub_zero,List.take_length];rfl
 | false=>
  rw[←hb,hrt]at hu2;have h1: ¬nth (t.rowsOf total) (r+1)=1:=fun h=>by have:=hu2.2 h;cases this
  have hfn:=zr hv hrt;have hDe:D=zv t.fn Lb (Qc Lb.length t.fn):=by rw[←hD];unfold TreeV.upZ;rw[if_neg (by rw[hrt];simp)]
  have hDl:D.length=Qc Lb.length t.fn:=by rw[hDe,Qr]
  have hit:qK D i=((Lb.drop (i*t.fn)).take t.fn).flatten:=by
   rw[hDl]at hi;rw[hDe];simp[qK,zv,zS,Lg,hi]
  have hil:i*t.fn<Lb.length:=(zk (by omega)).1 (by omega);rw[if_neg (by rintro⟨-,h⟩;exact h1 h)];by_cases h:i=nth (t.rowsOf total) (r+1) - 1
  ·rw[if_pos h];refine⟨i*t.fn,Lb.length,?_,by omega,Nat.le_refl _,?_⟩
   ·rw[decide_eq_true (by omega),if_neg (by omega: ¬r+1=0)]
   ·rw[hit];have hd:(Lb.drop (i*t.fn)).length=Lb.length - i*t.fn:=by simp
    have hle:Lb.length - i*t.fn≤t.fn:=by
     have:=qbE (m:=Lb.length) (d:=t.fn) (k:=i+1) (by omega) (by omega)
     rw[Nat.add_mul,Nat.one_mul]at this;omega
    rw[List.take_of_length_le (by omega),List.take_of_length_le (by omega)]
  ·rw[if_neg h];have h3:i+1<Qc Lb.length t.fn:=by omega
   have h4:=(zk (by omega)).1 h3;refine⟨i*t.fn,(i+1)*t.fn,?_,Nat.mul_le_mul_right _ (by omega),by omega,?_⟩
   ·rw[decide_eq_false (by omega)]
   ·rw[hit,Nat.add_mul,Nat.one_mul,Nat.add_sub_cancel_left]
theorem qbK {t:TreeV}{total:Nat}(he:t.err total=0)(kz z1 z2:List Int){L0:List (List Int)}(h0:L0.length=lvs total t.ln)(h1: ∀z∈L0,z.length≤64):t.topAt kz z1 z2 L0 ((t.rowsOf total).length - 1):=by
 have hv:=yb he;have hL0:L0≠[]:=List.length_pos_iff.1 (by rw[h0];unfold lvs;omega);have hR:=QZ he;have hlen:=hR.len;have key: ∀q,1≤q→q<(t.rowsOf total).length→(t.rootZ q (t.lvlZ kz z1 z2 L0 (q - 1)).length=true↔nth (t.rowsOf total) q=1):=fun q h2 h3=>by
  have hf:=QI hv kz z1 z2 hL0 h1 (q - 1);have hu:=(YK hv h2 hf.1).2;have hb:=yV he kz z1 z2 h0 h1 (q - 1) (by omega);have hn:=hR.next (q - 1) (by omega);rw[Nat.sub_add_cancel h2]at hn;rw[hu,hb,hn]
 refine⟨by omega,(key _ (by omega) (by omega)).2 hR.last,fun q h2 h3=>?_⟩;have:=(key q h2 (by omega))
 cases hrt:t.rootZ q (t.lvlZ kz z1 z2 L0 (q - 1)).length with
 | false=>rfl
 | true=>exact absurd (this.1 hrt) (hR.more q h2 (by omega))
end Go.Proofs.YtdndeffmlhaipaaGreatDoor
namespace Go.Proofs.YtdndeffmlhaipaaGreatDoor
open Go.ChangeShapes Go.WideShapes Go.ChangeAt Go.RowKit Go.Joins Go.Shelf Go.Maps
open Go.Lib (hid)
attribute [local go_sem] Oper.semAt_some
theorem ListO.get {B:Nat}{w:World}{v:Value}{L:List (List Int)}(h:ListO B w v L){i:Nat}(hi:i<L.length): ∃g cap x,v= .slice (some ⟨g,0,none⟩) L.length cap∧g<w.heap.size∧w.cell? ⟨g,i,none⟩=some x∧OwnB B w x (qK L i):=by
 obtain⟨vs,ho,hx⟩:=h;have hl:vs.length=L.length:=by have:=ho.1;simpa using this
 rcases ho.2 with⟨rfl,h0⟩|⟨g,cap,cur,rfl,h1,h2,h3,h4,h5,h6⟩
 ·omega
 ·refine⟨g,cap,vs.getD i undef,rfl,(Ai h2).1,?_,hx i hi⟩;rw[qa h2 i];have e:cur.toList[i]? =vs[i]? :=by rw[←h6,List.getElem?_take,if_pos (by omega)]
  rw[←Array.getElem?_toList,e,Lg,List.getElem?_eq_getElem (by omega)];rfl
theorem qf6 (t:TreeV)(kz z1 z2:List Int)(L0:List (List Int))(v:Value)(w:World)(h:TreeOk t kz z1 z2 w)(hv:ListH w v L0)(h0:L0≠[])(h1: ∀z∈L0,z.length≤64)(hn:L0.length≤8388608):
  Calls Tryz.prog 29 #[t.val,v] w fun e w'=> ∃u,e= .returned u∧(∃R,t.topAt kz z1 z2 L0 R∧OwnB w.heap.size w' u (qK (t.lvlZ kz z1 z2 L0 R) 0))∧Below w.heap.size w w':=by
 obtain⟨b0,hb0⟩:=Ex w.heap.size;have HT:=hid h;have HV:=hid hv;obtain⟨ib,hib,hzb,hsb,hbb⟩:=info_parts yk;have HF:=hid (QI h.v kz z1 z2 h0 h1);have hp:2≤t.p∧t.p≤255:=⟨(qq h.v).2.2.2.2.2.2.1,(qq h.v).2.2.2.2.2.2.2.1⟩;have hbA:Below b0 w (w.alloc (.cells #[.int .i64 t.k,.int .i64 t.d,.int .i64 t.f,.int .i64 t.p,.int .u32 t.l,.int .i64 t.i,.slice t.ka t.kl t.kc,.slice t.sa t.sl t.sc,.slice t.pa t.pl t.pc] 26)):=by rw[←hb0];exact Br.alloc Nl _
 have hrA:=Wn w (.cells #[.int .i64 t.k,.int .i64 t.d,.int .i64 t.f,.int .i64 t.p,.int .u32 t.l,.int .i64 t.i,.slice t.ka t.kl t.kc,.slice t.sa t.sl t.sc,.slice t.pa t.pl t.pc] 26);rw[hb0]at hrA;have h00:0<L0.length:=List.length_pos_iff.2 h0;clear h hv h0 h1;unfold TreeV.val;go_enter Tryz.func29,Tryz.ntmps29
 go_upto_region 1 with(fail)
 generalize w.alloc (.cells #[.int .i64 t.k,.int .i64 t.d,.int .i64 t.f,.int .i64 t.p,.int .u32 t.l,.int .i64 t.i,.slice t.ka t.kl t.kc,.slice t.sa t.sl t.sc,.slice t.pa t.pl t.pc] 26)=wA at*;have HRA:=hid hrA;have HBA:=hid hbA;clear hrA hbA;go_wp2_with fail
 go_loopw [1,5] (fun x i wr=> ∃r q:Nat,i= .int .i64 (q:Nat)∧q=r+1∧(q:Int)≤t.p - 1∧ListH wr x (t.lvlZ kz z1 z2 L0 r)∧(∀q',1≤q'→q'≤r→t.rootZ q' (t.lvlZ kz z1 z2 L0 (q' - 1)).length=false)∧Below b0 w wr∧wr.heap[b0]? =some (.cells #[.int .i64 t.k,.int .i64 t.d,.int .i64 t.f,.int .i64 t.p,.int .u32 t.l,.int .i64 t.i,.slice t.ka t.kl t.kc,.slice t.sa t.sl t.sc,.slice t.pa t.pl t.pc] 26 (0,0))) (fun _ i _=>256 - (intOf i).toNat)
 case atStart=>exact⟨0,1,rfl,rfl,by omega,HV.out.below (hb0▸HBA.out),fun q' h1 h2=>by omega,HBA.out,HRA.out⟩
 case round=>
  obtain⟨r,q,rfl,hq,hqp,hx,hno,hb,hrr⟩:=hrel;obtain⟨f1,f2,f3⟩:=HF.out r;obtain⟨xa,xc,rfl,hxc1,hxc2, -⟩:=id hx;have HNO:=hid hno;have HB:=hid hb;have HRR:=hid hrr;have hf4:=Y6 f3;have HAB:=hid (qfC t HT.out.v q (by omega) (t.lvlZ kz z1 z2 L0 r) _ wr hx (by omega) (by omega) f1);have hup:=Y7 HT.out.v q f1;have HIT:=hid (fun i=>Zc t q (t.lvlZ kz z1 z2 L0 r) i);have HLV:=hid (show t.lvlZ kz z1 z2 L0 q=t.rowZ kz z1 z2 q (t.rootZ q (t.lvlZ kz z1 z2 L0 r).length) (t.upZ q (t.lvlZ kz z1 z2 L0 r)) (t.upZ q (t.lvlZ kz z1 z2 L0 r)).length by rw[hq];rfl);have HRT0:=hid (show ∀b,t.rootZ q (t.lvlZ kz z1 z2 L0 r).length=b→t.rootZ q (t.lvlZ kz z1 z2 L0 (q - 1)).length=b by rw[hq];exact fun b h=>h);have HRL:=hid (show((q:Int)=t.p - 1→t.rootZ q (t.lvlZ kz z1 z2 L0 r).length=true) from jR);obtain⟨F,hF⟩:=Ex ((t.lvlZ kz z1 z2 L0 r).flatten.length);rw[hF]at hf4 HIT;have hUL:(t.upZ q (t.lvlZ kz z1 z2 L0 r)).length≤L0.length:=Nat.le_trans hup.2 f2;obtain⟨UU,hUU⟩:=Ex (t.upZ q (t.lvlZ kz z1 z2 L0 r));obtain⟨rt,hrt⟩:=Ex (t.rootZ q (t.lvlZ kz z1 z2 L0 r).length);obtain⟨N,hN⟩:=Ex ((t.lvlZ kz z1 z2 L0 r).length);have hFb:F≤536870912:=by omega
  have hU1:=hup.1;rw[hrt,hUU]at HAB HLV;rw[hrt]at HRT0 HRL;rw[hUU]at HIT hUL hU1;have HU1:=hid hU1;rw[hN]at hxc1 HAB⊢;have HQ:=hid hq;clear hx hno hb hup f1 f2 f3 hf4 hF hq;go_wp2_with ((with_reducible show wpList _ _ _ (Oper.mk _ (Op.load 26 _) _ _ _ _::_) _ _);refine wpList_load_row rfl 26 _ rfl b0 rfl _ _ _ _ hrr Tryz.underlying26 rfl (by kernel_rfl) ?_)
  refine HAB.out.mono ?_;rintro e w2 ⟨u,rfl,hlo,hb2⟩;obtain⟨ua,uc,rfl,huc1,huc2, -⟩:=hlo.hold;have hbr:b0<wr.heap.size:=(Ai hrr).1;have hs2:=hb2.size;have HLO:=hid (hlo.le (show b0≤wr.heap.size by omega));have HB2:=hid (HB.out.trans (hb2.mono (by omega)));have HR2:=hid (qe HRR.out hb2);obtain⟨bD,hbD⟩:=Ex w2.heap.size;clear hlo hb2 hrr HAB;go_wp2_with fail
  go_loopw [1,23] (fun s i wr=> ∃j:Nat,i= .int .i64 (j:Nat)∧j≤UU.length∧ListO bD wr s (t.rowZ kz z1 z2 q rt UU j)∧Below bD w2 wr) (fun _ i _=>UU.length - (intOf i).toNat)
  case atStart=>exact⟨0,rfl,Nat.zero_le _,ListO.nil _ _,Below.refl _ _⟩
  case round=>
   obtain⟨j,rfl,hj,ho,hb⟩:=hrel;by_cases hlt:j<UU.length
   case pos=>
    obtain⟨la',lc',e, -, -,h3⟩:=(HLO.out.below (hbD▸hb)).hold;obtain⟨g,off,rfl,h4,h5⟩:=h3.resolve_left (fun e=>by rw[e]at hlt;simp at hlt);simp only[Value.slice.injEq]at e;obtain⟨rfl, -,rfl⟩:=e;obtain⟨x,hx,hxh⟩:=h5 j hlt;obtain⟨xb,xd,rfl, -, -⟩:=hxh.slice;have hlt2:(j:Int)<UU.length:=by omega
    have hLn:(UU.length:Int)≤16777216:=by omega
    have hxl:=HIT.out j;have HXL:=hid hxl;obtain⟨ql,hql⟩: ∃q:Bool,decide (j+1=UU.length)=q:=⟨_,rfl⟩;have hla:((j:Int)==(UU.length:Int) - 1)=ql:=by
     rw[←hql,Bool.eq_iff_iff,beq_iff_eq,decide_eq_true_eq];omega
    have HQL:=hid hql;have hju:IntKind.u64.wrap (j:Int)=(j:Int):=u64_wrap_id _ (by omega) (by omega);obtain⟨vs,hvo,hvx⟩:=ho;have hvl:vs.length=j:=by have:=hvo.1;rw[qr]at this;omega
    rw[qr]at hvo hvx;have HVX:=hid hvx;obtain⟨a8,n8,k8,rfl⟩:=qp hvo;have HVO:=hid hvo;have HBV:=hid hb;have HXH:=hid hxh;have hrv:=qe HR2.out (hbD▸hb);have hTr:=HT.out.below (hb0▸(HB2.out.trans (hb.mono (by omega))));have HTR:=hid hTr;have hbLr:bD≤wr.heap.size:=by have:=hb.size;omega
    clear hvo hvx hxl hql h5 h3 hxh hb hTr;go_wp2_with ((with_reducible show wpList _ _ _ (Oper.mk _ (Op.load 26 _) _ _ _ _::_) _ _);refine wpList_load_row rfl 26 _ rfl b0 rfl _ _ _ _ hrv Tryz.underlying26 rfl (by kernel_rfl) ?_)
    refine(jY t HTR.out.v HTR.out.l z1 z2 kz q j (by omega) (by omega) ql rt xb (qK UU j).length xd wr HTR.out.s HTR.out.p HTR.out.k).mono ?_;rintro e w4 ⟨bv,kv,rfl,hbo,hko,hb4⟩;have HX4:=hid (HXH.out.below hb4);have HBO:=hid hbo;have HKO:=hid hko;have HB4:=hid hb4;clear hbo hko hb4;go_wp2_with fail
    refine(qdH HTR.out (row:=q) (at_:=j) (by omega) (by omega) ql rt (qK UU j) (.slice xb (qK UU j).length xd) bv kv w4 wr.heap.size HBO.out HKO.out HX4.out (by have:=HXL.out;omega)).mono ?_;rintro e w5 ⟨u,rfl,hO,hb5⟩;obtain⟨a6,k6,rfl, -, -⟩:=hO.hold.slice;have hs4:=HB4.out.size;have hs5:=hb5.size;have HK5:=hid ((KB.of_below HB4.out hbLr).trans (KB.of_below hb5 (by omega)));have HO5:=hid (hO.le (show bD≤w4.heap.size by omega));have HV5:=hid (show w5.ownsRow bD 24 1 (.slice a8 n8 k8) j vs from qf (qf HVO.out (fun g _ g2=>HB4.out.block g g2)) (fun g _ g2=>hb5.block g g2));have hNd:t.node kz z1 z2 q j ql rt (qK UU j)=t.node kz z1 z2 q j (decide (j+1=UU.length)) rt (qK UU j):=by rw[HQL.out]
    have HND:=hid hNd;generalize t.node kz z1 z2 q j ql rt (qK UU j)=ND at*;clear hb5 hO hNd HBO HKO HX4;go_wp2_with (first|((with_reducible show wpList _ _ _ (Oper.mk _ (Op.buildSlice _ _ _) _ _ _ _::_) _ _);refine Qi rfl _ rfl _ _ _ rfl ?_)|(at_builtin;refine Qt rfl _ _ _ rfl bD 24 (by decide) ib (.slice none 0 0) 1 24 Tryz.underlying60 hib hzb hsb hbb rfl (by decide) (.slice a8 n8 k8) j vs [.slice a6 ND.length k6] _ rfl HV5.out rfl rfl (by simp[Value.oneCell']) (by unfold maxLen;omega) (by omega) (by omega) ?_;intro v' w' hown' hkb' hsp'))
    refine⟨⟨j+1,rfl,by omega,?_,HBV.out.trans (HK5.out.trans hkb').below⟩,by simp[intOf];omega⟩;rw[yz,←HND.out];refine ListO.snoc (w:=w5) (vs:=vs) (x:= .slice a6 ND.length k6) (fun i hi=>?_) (by rw[qr];exact hvl) HO5.out (by rw[qr];exact hown') hkb';rw[qr]at hi;exact(HVX.out i hi).kb HK5.out
   obtain rfl:j=UU.length:=by omega
   rw[←HLV.out]at ho;have HB3:=hid (HB2.out.trans (hb.mono (show b0≤bD by omega)));have HR3:=hid (qe HR2.out (hbD▸hb));have hlq:(t.lvlZ kz z1 z2 L0 q).length=UU.length:=by rw[HLV.out];exact qr ..
   clear hb
   cases rt
   case true=>
    obtain⟨g,cg,x,rfl,hg,hx,hox⟩:=ho.get (i:=0) (by rw[hlq];exact HU1.out);obtain⟨xb,xd,rfl, -, -⟩:=hox.hold.slice;have HOX:=hid (hox.le (show b0≤bD by omega));rw[hlq];have hU2:0<(UU.length:Int):=by have:=HU1.out;omega
    clear ho hox;go_wp2
    go_ret
    try rw[hb0]
    exact⟨_,rfl,⟨q,⟨by have:=HQ.out;omega,HRT0.out true rfl,fun q' h1 h2=>HNO.out q' h1 (by have:=HQ.out;omega)⟩,HOX.out⟩,HB3.out⟩
   have hqn: ¬((q:Int)=t.p - 1):=fun e=>by have:=HRL.out e;cases this
   have HO:=hid ho.hold;clear ho;go_wp2
   refine⟨⟨q,q+1,rfl,rfl,by omega,HO.out,fun q' h1 h2=>?_,HB3.out,HR3.out⟩,by simp[intOf];omega⟩;by_cases h3:q'=q
   ·rw[h3];exact HRT0.out false rfl
   ·exact HNO.out q' h1 (by have:=HQ.out;omega)
end Go.Proofs.YtdndeffmlhaipaaGreatDoor
