/- The first two unlike calls of two messages with one digest have one output; plain. No condition. -/
import Derived.Test.YtdndeffmlhaipaaGreatDoorM40
import Derived.Test.YtdndeffmlhaipaaGreatDoorM42
import Derived.Test.YtdndeffmlhaipaaGreatDoorM36
import Derived.Test.YtdndeffmlhaipaaGreatDoorM37
import Derived.Test.YtdndeffmlhaipaaGreatDoorM45
set_option linter.all false
set_option maxRecDepth 100000
set_option maxHeartbeats 8000000
namespace Go.Proofs.YtdndeffmlhaipaaGreatDoor
open Go.ChangeShapes Go.WideShapes Go.ChangeAt Go.RowKit Go.Joins Go.Shelf Go.Maps
open Go.Lib (hid)
def TreeV.outS (t:TreeV)(s:CallS):List Int:=zw t.big s.bs s.kz s.la s.o s.ds
theorem qbr: ∀{x y:List CallS} {n i:Nat} {a b:CallS},Qo x y n=some (a,b,i)→n≤i∧x[i - n]? =some a∧y[i - n]? =some b
 | [],_,_,_,_,_,h=>by simp[Qo]at h
 | _::_,[],_,_,_,_,h=>by simp[Qo]at h
 | p::x,q::y,n,i,a,b,h=>by
  unfold Qo at h;by_cases e:p=q
  ·rw[if_pos e]at h;obtain⟨h1,h2,h3⟩:=qbr h;refine⟨by omega,?_,?_⟩
   ·rw[show i - n=(i - (n+1))+1 by omega];simpa using h2
   ·rw[show i - n=(i - (n+1))+1 by omega];simpa using h3
  ·rw[if_neg e]at h;simp only[Option.some.injEq,Prod.mk.injEq]at h;obtain⟨rfl,rfl,rfl⟩:=h;simp
theorem qbp: ∀{A B:List (List CallS)} {r row i:Nat} {a b:CallS},Qu A B r=some (a,b,row,i)→ ∃d,d<A.length∧d<B.length∧Qo (A.getD d []) (B.getD d []) 0=some (a,b,i)∧ ∀e,e<d→Qo (A.getD e []) (B.getD e []) 0=none
 | [],_,_,_,_,_,_,h=>by simp[Qu]at h
 | _::_,[],_,_,_,_,_,h=>by simp[Qu]at h
 | x::A,y::B,r,row,i,a,b,h=>by
  unfold Qu at h
  cases e:Qo x y 0 with
  | none=>
   rw[e]at h;obtain⟨d,h1,h2,h3,h4⟩:=qbp h;refine⟨d+1,by simpa using h1,by simpa using h2,by simpa using h3,fun q hq=>?_⟩
   cases q with
   | zero=>exact e
   | succ q=>simpa using h4 q (by omega)
  | some z=>
   obtain⟨p,q,n⟩:=z;rw[e]at h;simp only[Option.some.injEq,Prod.mk.injEq]at h;obtain⟨rfl,rfl, -,rfl⟩:=h;exact⟨0,by simp,by simp,e,fun q hq=>by omega⟩
theorem jw {n:Nat}(hn:0<n): ∀{A B:List (List Int)},(∀d∈A,d.length=n)→(∀d∈B,d.length=n)→A.flatten=B.flatten→A=B
 | [],[],_,_,_=>rfl
 | [],b::B,_,hb,e=>by
  have:=hb b (by simp)
  have e2:=congrArg List.length e;simp only[List.flatten_nil,List.length_nil,List.flatten_cons,List.length_append]at e2;omega
 | a::A,[],ha,_,e=>by
  have:=ha a (by simp)
  have e2:=congrArg List.length e;simp only[List.flatten_nil,List.length_nil,List.flatten_cons,List.length_append]at e2;omega
 | a::A,b::B,ha,hb,e=>by
  rw[List.flatten_cons,List.flatten_cons]at e;have h1:=List.append_inj e (by rw[ha a (by simp),hb b (by simp)]);rw[h1.1,jw hn (fun d hd=>ha d (List.mem_cons_of_mem _ hd)) (fun d hd=>hb d (List.mem_cons_of_mem _ hd)) h1.2]
theorem qaT {t:TreeV}{kz z1 z2 zs:List Int}{r i:Nat}{a:CallS}(h:(t.callsR kz z1 z2 zs r)[i]? =some a):i<(t.dataR kz z1 z2 zs r).length∧a=t.callS kz z1 z2 r i (decide (i+1=(t.dataR kz z1 z2 zs r).length)) (t.rtR kz z1 z2 zs r) (qJ (t.dataR kz z1 z2 zs r) i)∧t.outS a=qJ (t.lvlZ kz z1 z2 (t.leafZ kz z1 z2 zs) r) i:=by
 unfold TreeV.callsR TreeV.rowC at h;have hi:i<(t.dataR kz z1 z2 zs r).length:=by
  have:=(List.getElem?_eq_some_iff.1 h).1
  simpa using this
 rw[List.getElem?_map,List.getElem?_range hi]at h;obtain rfl:=Option.some.inj h;refine⟨hi,rfl,?_⟩;rw[TreeV.lvl_is];unfold qJ TreeV.rowZ;rw[Lg,List.getElem?_map,List.getElem?_range hi];rfl
theorem qdw {t:TreeV}(h:t.validE=0)(hl:0≤t.l∧t.l≤4294967295){kz z1 z2 xs ys:List Int}(h1:z1.length≤sB t.big)(h2:z2.length≤sB t.big)(hx:xs.length≤4194304)(hy:ys.length≤4194304)
  (hdg:t.digZ kz z1 z2 xs=t.digZ kz z1 z2 ys) {a b:CallS} {row i:Nat} (hd:t.diffT kz z1 z2 xs ys=some (a,b,row,i)):
  t.outS a=t.outS b∧(∃r j:Nat,r<(t.rowsOf xs.length).length∧(t.callsR kz z1 z2 xs r)[j]? =some a)∧ ∃r j:Nat,r<(t.rowsOf ys.length).length∧(t.callsR kz z1 z2 ys r)[j]? =some b:=by
 unfold TreeV.diffT at hd;have hRx:=qM (qK h hx);have hRy:=qM (qK h hy);have hpn:t.pn≤255:=by have:=(qd h).2.2.2.2.2.2.2.1;unfold TreeV.pn;omega
 have hmx:=hRx.most;have hmy:=hRy.most;have hlx:=hRx.len;have hly:=hRy.len;obtain⟨m,hm⟩:=Ex ((t.rowsOf xs.length).length - 1);obtain⟨n,hn⟩:=Ex ((t.rowsOf ys.length).length - 1);unfold TreeV.digZ at hdg;rw[if_pos h,if_pos h]at hdg;rw[hm,hn]at hd hdg;obtain⟨d,hd1,hd2,hd3,hst⟩:=qbp hd;simp only[ZP]at hd1 hd2;rw[QW _ _ _ _ _ (by omega),QW _ _ _ _ _ (by omega)]at hd3;obtain⟨-,ha,hb⟩:=qbr hd3;rw[Nat.sub_zero]at ha hb;have ca:=qaT ha;have cb:=qaT hb;refine⟨?_,⟨m - d,i,by omega,ha⟩,⟨n - d,i,by omega,hb⟩⟩;rw[ca.2.2,cb.2.2];have hLx:=qz h hl kz z1 z2 xs;have hLy:=qz h hl kz z1 z2 ys;have hRLx:=Qr h hl kz z1 z2 xs;have hRLy:=Qr h hl kz z1 z2 ys;have hnx: ∀r,r<(t.rowsOf xs.length).length→(t.dataR kz z1 z2 xs r).length=nth (t.rowsOf xs.length) r:=fun r hr=>by
  have e:=Qh (qK h hx) kz z1 z2 hRLx hLx.2.2 r hr;rw[TreeV.lvl_is,TreeV.rowZ_length]at e;exact e
 have hny: ∀r,r<(t.rowsOf ys.length).length→(t.dataR kz z1 z2 ys r).length=nth (t.rowsOf ys.length) r:=fun r hr=>by
  have e:=Qh (qK h hy) kz z1 z2 hRLy hLy.2.2 r hr;rw[TreeV.lvl_is,TreeV.rowZ_length]at e;exact e
 have l1:(t.dataR kz z1 z2 xs m).length=1:=by rw[hnx m (by omega),←hm];exact hRx.last
 have l2:(t.dataR kz z1 z2 ys n).length=1:=by rw[hny n (by omega),←hn];exact hRy.last
 cases d with
 | zero=>
  have h3:=ca.1;rw[Nat.sub_zero,l1]at h3;obtain rfl:i=0:=by omega
  exact hdg
 | succ d=>
  have h0:=hst 0 (by omega);rw[QW _ _ _ _ _ (by omega),QW _ _ _ _ _ (by omega),Nat.sub_zero,Nat.sub_zero]at h0;have e0:=Ye _ _ _ h0 (by unfold TreeV.callsR;rw[qq,qq,l1,l2]);have emn:m=n:=by
   have e1:=congrArg (fun l:List CallS=>l[0]?) e0;unfold TreeV.callsR at e1;rw[l1,l2]at e1;simp only[TreeV.rowC,List.getElem?_map,List.getElem?_range (Nat.zero_lt_one),Option.map_some]at e1;have e2:=congrArg CallS.bs (Option.some.inj e1);exact qcR h h1 h2 (by omega) (by omega) e2
  subst emn;have hlv: ∀r,r<m→t.dataR kz z1 z2 xs (r+1)=t.dataR kz z1 z2 ys (r+1)→t.lvlZ kz z1 z2 (t.leafZ kz z1 z2 xs) r=t.lvlZ kz z1 z2 (t.leafZ kz z1 z2 ys) r:=fun r hr e=>by
   have f1:(t.dataR kz z1 z2 xs (r+1)).flatten=(t.lvlZ kz z1 z2 (t.leafZ kz z1 z2 xs) r).flatten:=yz h (r+1) _;have f2:(t.dataR kz z1 z2 ys (r+1)).flatten=(t.lvlZ kz z1 z2 (t.leafZ kz z1 z2 ys) r).flatten:=yz h (r+1) _;rw[e,f2]at f1;have ti:=(qd h).2.2.2.1;exact(jw (n:=t.i.toNat) (by omega) (fun d hd=>by have:=(yh h hl kz z1 z2 ys hy hn hr d hd).1;omega) (fun d hd=>by have:=(yh h hl kz z1 z2 xs hx hm hr d hd).1;omega) f1).symm
  have hall: ∀e,e≤d→t.dataR kz z1 z2 xs (m - e)=t.dataR kz z1 z2 ys (m - e):=by
   intro e;induction e with
   | zero=>
    intro _;rw[Nat.sub_zero];exact zJ e0
   | succ e ih=>
    intro hed;have ih2:=ih (by omega);obtain⟨r,hr⟩: ∃r,m - e=r+1:=⟨m - e - 1,by omega⟩;rw[show m - (e+1)=r by omega];rw[hr]at ih2;have g4:=congrArg List.length (hlv r (by omega) ih2);rw[TreeV.lvl_is,TreeV.lvl_is,TreeV.rowZ_length,TreeV.rowZ_length]at g4;have g5:=hst (e+1) (by omega);rw[QW _ _ _ _ _ (by omega),QW _ _ _ _ _ (by omega),show m - (e+1)=r by omega]at g5;exact zJ (Ye _ _ _ g5 (by rw[qq,qq,g4]))
  obtain⟨r,hr⟩: ∃r,m - d=r+1:=⟨m - d - 1,by omega⟩;have h4:=hall d Nl;rw[hr]at h4;rw[show m - (d+1)=r by omega,hlv r (by omega) h4]
end Go.Proofs.YtdndeffmlhaipaaGreatDoor
namespace Go.Proofs.YtdndeffmlhaipaaGreatDoor
open Go.ChangeShapes Go.WideShapes Go.ChangeAt Go.RowKit Go.Joins Go.Shelf Go.Maps
open Go.Lib (hid)
attribute [local go_sem] Oper.semAt_some
def TreeV.calZ (t:TreeV)(kz z1 z2 zs:List Int):List CallS:=if t.validE=0 then(t.allC kz z1 z2 zs ((t.rowsOf zs.length).length - 1+1)).flatten else []
theorem JV (t:TreeV)(a1:Option Addr)(c1:Nat)(a2:Option Addr)(c2:Nat)(a3:Option Addr)(c3:Nat)(kz z1 z2 zs:List Int):(t.sw a1 c1 a2 c2 a3 c3).calZ kz z1 z2 zs=t.calZ kz z1 z2 zs:=by
 unfold TreeV.calZ TreeV.allC;rw[show(t.sw a1 c1 a2 c2 a3 c3).callsR kz z1 z2 zs=t.callsR kz z1 z2 zs from funext (Y4 t a1 c1 a2 c2 a3 c3 kz z1 z2 zs)];rfl
def qcX (t:TreeV)(kz z1 z2 zs:List Int)(w:World)(e:Ending)(w':World):Prop:=
 ∃u,e= .returned (.tuple #[u,.int .i64 t.validE])∧CallsO w w.heap.size w' u (t.calZ kz z1 z2 zs)∧Below w.heap.size w w'
theorem qdB (t:TreeV)(kz z1 z2 zs:List Int)(v:Value)(w:World)(hl:0≤t.l∧t.l≤4294967295)(hk:Hold w (.slice t.ka t.kl t.kc) kz)(hs:Hold w (.slice t.sa t.sl t.sc) z1)(hp:Hold w (.slice t.pa t.pl t.pc) z2)(hv:Hold w v zs)(hn:zs.length≤4194304):
  Calls Tryz.prog 18 #[t.val,v] w fun e w'=>qcX t kz z1 z2 zs w e w':=by
 by_cases h:t.validE=0
 ·refine(qbw t kz z1 z2 zs v w ⟨h,hl,hk,hs,hp⟩ hv hn).mono ?_;rintro e w' ⟨u,rfl,⟨R,hR,ho⟩,hb⟩
  have hL:=qz h hl kz z1 z2 zs;have hT:=yY (qK h hn) kz z1 z2 (Qr h hl kz z1 z2 zs) hL.2.2;rw[yM hR hT]at ho;refine⟨u,by rw[h],?_,hb⟩;unfold TreeV.calZ;rw[if_pos h,TreeV.allC_succ,List.flatten_append,List.flatten_singleton];exact ho
 ·refine(qdA t v w h).mono ?_;rintro e w' ⟨rfl,hb⟩
  exact⟨_,rfl,by unfold TreeV.calZ;rw[if_neg h];exact CallsO.nil _ _ _,hb⟩
def zF (t:TreeV)(s:CallS):Prop:=s.k=t.k∧okD t.big false s.bs∧Yu s.bs s.kz=false∧1≤s.o∧s.o≤(mB t.big:Nat)∧(s.ds.length:Int)≤140737488355200
theorem qan {t:TreeV}{kz z1 z2:List Int}{w:World}(h:TreeOk t kz z1 z2 w){zs:List Int}{r j:Nat}{a:CallS}(hn:zs.length≤4194304)(hr:r<(t.rowsOf zs.length).length)(ha:(t.callsR kz z1 z2 zs r)[j]? =some a):zF t a:=by
 obtain⟨hj,rfl, -⟩:=qaT ha;have hR:=qM (qK h.v hn);have hmx:=hR.most;have hpn:t.pn≤255:=by have:=(qd h.v).2.2.2.2.2.2.2.1;unfold TreeV.pn;omega
 have hf:=yi h.v h.l kz z1 z2 zs r;obtain⟨h1,h2,h3,h4⟩:=h.okD (row:=r) (at_:=j) (by omega) (by omega);have h5:=hf.2.2 j;exact⟨rfl,h1,h2,(h4 _).1,(h4 _).2,show((qJ (t.dataR kz z1 z2 zs r) j).length:Int)≤_ by omega⟩
theorem yw {t:TreeV}(hv:t.validE=0){s:CallS}(hg:zF t s){c:Array Value}{W:World}(hc:CallM W (.agg c) s):
  Calls Tryz.prog 16 #[.agg c] W fun e w'=> ∃u,e= .returned (.tuple #[u,.int .i64 0])∧Hold w' u (t.outS s)∧Below W.heap.size W w':=by
 obtain⟨h1,h2,h3,h4,h5,h6⟩:=hg;obtain⟨bv,kv,dv,e,k1,k2,k3⟩:=hc;simp only[Value.agg.injEq]at e;rw[e,h1,←YS hv];refine(ZI t.big _ _ _ s.la s.o bv kv dv W k1 k2 k3 h6 h2 h3 ⟨h4,h5⟩).mono ?_;rintro e w' ⟨⟨u,rfl,hu⟩,hb⟩
 exact⟨u,rfl,hu.hold (fun z hz=>zh _ _ _ _ z (List.mem_of_mem_take hz)),hb⟩
theorem qd3 {t:TreeV}{s:CallS}(hg:zF t s):1≤(t.outS s).length:=by
 obtain⟨-, -, -,h4,h5, -⟩:=hg;have h:(zW t.big (h0Z t.big s.bs) (yn (bB t.big) s.kz++s.ds) s.la).length=mB t.big:=yF _ _ _ _;unfold TreeV.outS zw;rw[List.length_take];omega
theorem qam {t:TreeV}{kz z1 z2:List Int}{B:Nat}{W:World}{tv:Value}(hT:ZW t kz z1 z2 B W tv)(hl:0≤t.l∧t.l≤4294967295)(u:Value)(U:List Int)(hu:Hold W u U)(hU:U.length≤4194304):
  Calls Tryz.prog 18 #[tv,u] W fun e w'=>qcX t kz z1 z2 U W e w':=by
 obtain⟨a1,c1,a2,c2,a3,c3,rfl,k1,k2,k3⟩:=hT;refine(qdB (t.sw a1 c1 a2 c2 a3 c3) kz z1 z2 U u W hl k1.hold k2.hold k3.hold hu hU).mono ?_;rintro e w' ⟨x,rfl,h1,h2⟩
 rw[JV]at h1;exact⟨x,rfl,h1,h2⟩
theorem qby {t:TreeV}(hv:t.validE=0){kz z1 z2 zs:List Int}{r j:Nat}{a:CallS}(hr:r<(t.rowsOf zs.length).length)(ha:(t.callsR kz z1 z2 zs r)[j]? =some a): ∃p:Nat,(t.calZ kz z1 z2 zs)[p]? =some a:=by
 have hm:a∈t.calZ kz z1 z2 zs:=by
  unfold TreeV.calZ TreeV.allC;rw[if_pos hv];exact List.mem_flatten.2 ⟨_,List.mem_map.2 ⟨r,List.mem_range.2 (by omega),rfl⟩,List.mem_of_getElem? ha⟩
 obtain⟨p,hp,e⟩:=List.mem_iff_getElem.1 hm;exact⟨p,by rw[List.getElem?_eq_getElem hp,e]⟩
theorem qbI (S:List CallS)(s:CallS)(p:Nat)(hp:S[p]? =some s)(w0:World)(B:Nat)(v:Value)(c:Array Value)(W:World)(hw0:w0.heap.size≤W.heap.size)(hv:CallsO w0 B W v S)(hc:CallM W (.agg c) s):
  Calls Tryz.prog 19 #[v,.agg c] W fun e w'=>e= .returned (.bool true)∧Below W.heap.size W w':=by
 obtain⟨b0,hb0⟩:=Ex W.heap.size;have hpl:p<S.length:=(List.getElem?_eq_some_iff.1 hp).1;obtain⟨g,cap,cur, -, -, -,rfl, -, -, -⟩:=hv.get hpl rfl;obtain⟨a1,j1,a2,j2,a3,j3,rfl⟩:=hc.lit;obtain⟨n,hn⟩:=Ex S.length;have hnm:(n:Int)≤9223372036854775807:=by
  obtain⟨cs, -,ho, -⟩:=hv;rcases ho.2 with⟨e, -⟩|⟨g',cap',cur',e, -, -,h4,h5, -⟩
  ·cases e
  ·unfold maxLen at h5;omega
 rw[hn];have HV:=hid (fun(V:World) (hb:Below b0 W V)=>hv.below hw0 (hb0▸hb));have HC:=hid (fun(V:World) (hb:Below b0 W V)=>hc.below (hb0▸hb));have HN:=hid hn;have HP:=hid hp;have hpn:p<n:=by omega
 clear hv hc hn hp hpl hw0;go_enter Tryz.func19,Tryz.ntmps19
 go_upto_region 1 with(fail)
 refine qj ?_;intro wA hwA;have hrA:wA.heap[b0]? =some (.cells #[.int .i64 s.k,.slice a1 s.bs.length j1,.slice a2 s.kz.length j2,.bool s.la,.int .i64 s.o,.slice a3 s.ds.length j3] 40 (0,0)):=by rw[hwA];exact qN hb0
 have HBA:=hid (show Below b0 W wA by rw[hwA,←hb0];exact Br.alloc Nl _);clear hwA;go_wp2_with fail
 go_loopw [5] (fun i wr=> ∃k:Nat,i= .int .i64 (k:Nat)∧k≤p∧Below b0 W wr∧wr.heap[b0]? =some (.cells #[.int .i64 s.k,.slice a1 s.bs.length j1,.slice a2 s.kz.length j2,.bool s.la,.int .i64 s.o,.slice a3 s.ds.length j3] 40 (0,0))) (fun i _=>n - (intOf i).toNat)
 case atStart=>exact⟨0,rfl,Nat.zero_le _,HBA.out,hrA⟩
 case round=>
  obtain⟨k,rfl,hk,hb,hr⟩:=hrel;clear hrA HBA;have hkn:(k:Int)<(n:Nat):=by omega
  have hwk:IntKind.i64.wrap ((k:Int)+1)=(k:Int)+1:=by rw[IntKind.wrap_i64]<;>omega
  obtain⟨x,hx⟩:=Ex (S.getD k .zero);obtain⟨g1,k1,cur1,bv1,kv1,dv1,e1, -,hg1,hc1,p1,p2,p3⟩:=(HV.out wr hb).get (i:=k) (by rw[HN.out];omega) hx;simp only[Value.slice.injEq,Option.some.injEq,Addr.mk.injEq,and_true]at e1;obtain⟨rfl, -,rfl⟩:=e1;obtain⟨q1,r1,rfl, -⟩:=p1.slice;obtain⟨q2,r2,rfl, -⟩:=p2.slice;obtain⟨q3,r3,rfl, -⟩:=p3.slice;have hM1:CallM wr (.agg #[.int .i64 x.k,.slice q1 x.bs.length r1,.slice q2 x.kz.length r2,.bool x.la,.int .i64 x.o,.slice q3 x.ds.length r3]) x:=⟨_,_,_,rfl,p1,p2,p3⟩;have HM1:=hid hM1;have HM2:=hid (HC.out wr hb);have HG1:=hid hg1;have HC1:=hid hc1;have HB:=hid hb;have HX:=hid hx;have hsr:=hb.size;clear hM1 hg1 hc1 p1 p2 p3 hb hx;go_upto_region 4 with(fail)
  refine qA (n:=6) (w0:=wr) (B:=wr.heap.size) [.v 12 (.slice (some ⟨g,0,none⟩) n cap),.v 13 (.int .i64 (k:Nat)),.v 14 (.pointer (some ⟨g,k*6,none⟩)),.v 15 (.agg #[.int .i64 x.k,.slice q1 x.bs.length r1,.slice q2 x.kz.length r2,.bool x.la,.int .i64 x.o,.slice q3 x.ds.length r3]),.v 16 (.agg #[.int .i64 s.k,.slice a1 s.bs.length j1,.slice a2 s.kz.length j2,.bool s.la,.int .i64 s.o,.slice a3 s.ds.length j3]),.v 17 (.bool (yB x s))] trivial Br.drew Nl ?_ ?_
  ·repeat' (with_reducible first|exact qt|refine qn ?_ ?_)
   ·intro AA xx V hA hW hBW hdep D K hK;have a0:=hA.2 0 (by decide);conv at a0=>rhs;whnf
    clear hdep hA;go_simp
    exact hK _ _ BR rfl
   ·intro AA xx V hA hW hBW hdep D K hK;have a5:=hA.2 5 (by decide);conv at a5=>rhs;whnf
    clear hdep hA;go_simp
    exact hK _ _ BR rfl
   ·intro AA xx V hA hW hBW hdep D K hK;have g0:=gv hA hdep 0 12;have g1:=gv hA hdep 1 13;clear hdep hA;go_simp
    exact hK _ _ BR rfl
   ·intro AA xx V hA hW hBW hdep D K hK;have g42:=gv hA hdep 2 14;clear hdep hA;exact qF 40 _ rfl g (k*6) g42 40 cur1 #[.int .i64 x.k,.slice q1 x.bs.length r1,.slice q2 x.kz.length r2,.bool x.la,.int .i64 x.o,.slice q3 x.ds.length r3] (0,0) _ ((hW.block g (Ai HG1.out).1).trans HG1.out) Tryz.underlying40 rfl (by kernel_rfl) HC1.out (hK _ _ BR rfl)
   ·intro AA xx V hA hW hBW hdep D K hK;have a3:=hA.2 3 (by decide);conv at a3=>rhs;whnf
    clear hdep hA;exact wp_load_row 40 _ rfl b0 a3 _ _ _ _ (qb hr hW) Tryz.underlying40 rfl (by kernel_rfl) (hK _ _ Br rfl)
   ·intro AA xx V hA hW hBW hdep D K hK;have g15:=gv hA hdep 3 15;have g16:=gv hA hdep 4 16;clear hdep hA;go_simp
    refine(qdE x s _ _ V (HM1.out.below hW) (HM2.out.below hW)).mono ?_;rintro e w5 ⟨rfl,hb5⟩;exact hK _ _ hb5 rfl
  intro xx V hW hBW _;refine qo ?_;simp only[Qi,Act.put,Ls];have HB2:=hid (HB.out.trans (hW.mono (by omega)));have hr2:=qb hr hW;clear hW hBW hr
  cases hq:yB x s with
  | true=>
   go_wp2
   go_ret
   exact⟨rfl,by rw[hb0];exact HB2.out⟩
  | false=>
   have hkp:k≠p:=fun e=>by
    have h1:=HX.out;rw[e,Lg,HP.out]at h1;have h2:s=x:=h1;rw[h2,Zl]at hq
    cases hq
   go_wp2
   exact⟨⟨k+1,by go_num,by omega,HB2.out,hr2⟩,by simp[intOf];omega⟩
theorem qcp {t:TreeV}(hv:t.validE=0){sa sb:CallS}(hga:zF t sa)(hgb:zF t sb)(he:t.outS sa=t.outS sb)(hab:sa≠sb)(ca cb:Array Value)(w:World)(ha:CallM w (.agg ca) sa)(hb:CallM w (.agg cb) sb):
  Calls Tryz.prog 17 #[.agg ca,.agg cb] w fun e w'=>e= .returned (.tuple #[.bool true,.int .i64 0])∧Below w.heap.size w w':=by
 obtain⟨b0,hb0⟩:=Ex w.heap.size;obtain⟨a1sa,j1sa,a2sa,j2sa,a3sa,j3sa,rfl⟩:=ha.lit;obtain⟨a1sb,j1sb,a2sb,j2sb,a3sb,j3sb,rfl⟩:=hb.lit;have HA:=hid ha;have HBB:=hid hb;have HGA:=hid hga;have HGB:=hid hgb;have HE:=hid he;have HAB:=hid hab;have HVV:=hid hv;clear ha hb hga hgb he hab hv;go_enter Tryz.func17,Tryz.ntmps17
 go_upto_region 1 with(fail)
 refine qj ?_;intro wA hw;have HB_0:=hid (show Below b0 w wA by rw[hw,←hb0];exact(Br.alloc Nl _).alloc (by rw[qw];omega) _);have RA_0:wA.heap[b0]? =some (.cells #[.int .i64 sa.k,.slice a1sa sa.bs.length j1sa,.slice a2sa sa.kz.length j2sa,.bool sa.la,.int .i64 sa.o,.slice a3sa sa.ds.length j3sa] 40 (0,0)):=by
  rw[hw];exact qb (qN hb0) (Br.alloc Nl _)
 have RB_0:wA.heap[b0+1]? =some (.cells #[.int .i64 sb.k,.slice a1sb sb.bs.length j1sb,.slice a2sb sb.kz.length j2sb,.bool sb.la,.int .i64 sb.o,.slice a3sb sb.ds.length j3sb] 40 (0,0)):=by
  rw[hw];exact qN (by rw[qw,hb0])
 have CA_0:=hid (HA.out.below (hb0▸HB_0.out));have CB_0:=hid (HBB.out.below (hb0▸HB_0.out));clear hw HA HBB;have cc:=(QF RA_0).1;have HQ:=hid (yw HVV.out HGA.out CA_0.out);go_wp2_with fail
 refine HQ.out.mono ?_;rintro e w1 ⟨x1,rfl,hx,hb⟩;clear cc HQ;have HB_1:=hid (HB_0.out.trans (hb.mono (by have:=HB_0.out.size;omega)));have RA_1:=qb RA_0 hb;have RB_1:=qb RB_0 hb;have CA_1:=hid (CA_0.out.below hb);have CB_1:=hid (CB_0.out.below hb);clear HB_0 RA_0 RB_0 CA_0 CB_0 hb;have Hx1_1:=hid (hx);clear hx;have cc:=(QF RB_1).1;have HQ:=hid (yw HVV.out HGB.out CB_1.out);go_wp2_with fail
 refine HQ.out.mono ?_;rintro e w2 ⟨x2,rfl,hx,hb⟩;clear cc HQ;have HB_2:=hid (HB_1.out.trans (hb.mono (by have:=HB_1.out.size;omega)));have RA_2:=qb RA_1 hb;have RB_2:=qb RB_1 hb;have CA_2:=hid (CA_1.out.below hb);have CB_2:=hid (CB_1.out.below hb);have Hx1_2:=hid (Hx1_1.out.below hb);clear HB_1 RA_1 RB_1 CA_1 CB_1 Hx1_1 hb;have Hx2_2:=hid (hx);clear hx;have hq:=yl sa sb _ _ w2 CA_2.out CB_2.out;rw[show yB sa sb=false by cases h:yB sa sb;rfl;exact absurd ((YA _ _).1 h) HAB.out]at hq;have HQ:=hid hq;clear hq;have cc1:=(QF RA_2).1;have cc2:=(QF RB_2).1;go_wp2_with fail
 refine HQ.out.mono ?_;rintro e w3 ⟨rfl,hb⟩;clear cc1 cc2 HQ;have HB_3:=hid (HB_2.out.trans (hb.mono (by have:=HB_2.out.size;omega)));have RA_3:=qb RA_2 hb;have RB_3:=qb RB_2 hb;have CA_3:=hid (CA_2.out.below hb);have CB_3:=hid (CB_2.out.below hb);have Hx1_3:=hid (Hx1_2.out.below hb);have Hx2_3:=hid (Hx2_2.out.below hb);clear HB_2 RA_2 RB_2 CA_2 CB_2 Hx1_2 Hx2_2 hb;have hq:=zH (t.outS sa) (t.outS sb) _ _ w3 Hx1_3.out Hx2_3.out;rw[decide_eq_true HE.out]at hq;have HQ:=hid hq;clear hq;go_wp2_with fail
 refine HQ.out.mono ?_;rintro e w4 ⟨rfl,rfl⟩;go_wp2
 go_ret2
 exact⟨rfl,by rw[hb0];exact HB_3.out⟩
theorem PartSays.any {t:TreeV}{kz z1 z2 xs ys:List Int}{c1 c2:Array Value}{r i:Int}{W:World}(h:PartSays t kz z1 z2 xs ys c1 c2 r i W): ∃a b,CallM W (.agg c1) a∧CallM W (.agg c2) b∧(t.clashE kz z1 z2 xs ys=0→ ∃row at_,t.diffT kz z1 z2 xs ys=some (a,b,row,at_)):=by
 by_cases h0:t.clashE kz z1 z2 xs ys=0
 ·obtain⟨a,b,row,at_,h1,h2,h3⟩:=h.call h0;exact⟨a,b,h2,h3,fun _=>⟨row,at_,h1⟩⟩
 ·obtain⟨a,b,h1,h2, -, -⟩:=h.both h;exact⟨a,b,h1,h2,fun e=>absurd e h0⟩
theorem jK (t:TreeV)(kz z1 z2 xs ys:List Int)(v1 v2:Value)(w:World)(hl:0≤t.l∧t.l≤4294967295)(h1:Hold w (.slice t.ka t.kl t.kc) kz)(h2:Hold w (.slice t.sa t.sl t.sc) z1)(h3:Hold w (.slice t.pa t.pl t.pc) z2)(hx:Hold w v1 xs)(hy:Hold w v2 ys)(hxn:xs.length≤4194304)(hyn:ys.length≤4194304)(htab:TabW w)(hk:t.kl≤70368744177664)(hs:t.sl≤70368744177664)(hp:t.pl≤70368744177664):
  Calls Tryz.prog 5 #[t.val,v1,v2] w (qcT w):=by
 obtain⟨b0,hb0⟩:=Ex w.heap.size;have HL:=hid hl;have HXN:=hid hxn;have HYN:=hid hyn;have HX_0':=hid hx;have HY_0':=hid hy;have HOK:=hid (fun hv:t.validE=0=>(⟨hv,hl,h1,h2,h3⟩:TreeOk t kz z1 z2 w));have HSB:=hid (fun hv:t.validE=0=>(show z1.length≤sB t.big∧z2.length≤sB t.big by
  have hvf:=qd hv;have hmb:=QT hv;have e1:=Qf h2;have e2:=Qf h3;have e3:=Qf h1;exact⟨by omega,by omega⟩))
 have HOWN:=hid (fun(W:World) (hb:Below b0 w W)=>qa8 t kz z1 z2 W (h1.below (hb0▸hb)) (h2.below (hb0▸hb)) (h3.below (hb0▸hb)) hk hs hp);obtain⟨xa,xc,rfl, -, -⟩:=hx.slice;obtain⟨ya,yc,rfl, -, -⟩:=hy.slice;have HTAB:=hid (fun(W:World) (hb:Below b0 w W)=>htab.below (hb0▸hb));clear hl h1 h2 h3 htab hk hs hp hx hy hxn hyn;unfold TreeV.val at*;go_enter Tryz.func5,Tryz.ntmps5
 go_upto_region 1 with(fail)
 refine qj ?_;intro wA hwA;have ROW_0:wA.heap[b0]? =some (.cells #[.int .i64 t.k,.int .i64 t.d,.int .i64 t.f,.int .i64 t.p,.int .u32 t.l,.int .i64 t.i,.slice t.ka t.kl t.kc,.slice t.sa t.sl t.sc,.slice t.pa t.pl t.pc] 26 (0,0)):=by rw[hwA,←hb0];exact Wn _ _
 have HB_0:=hid (show Below b0 w wA by rw[hwA,←hb0];exact Br.alloc Nl _);have HX_0:=hid (HX_0'.out.below (hb0▸HB_0.out));have HY_0:=hid (HY_0'.out.below (hb0▸HB_0.out));clear hwA HX_0' HY_0';go_wp2_with fail
 refine(JB wA (HTAB.out wA HB_0.out)).mono ?_;rintro e w1 ⟨rfl,hb⟩;have ROW_1:=qb ROW_0 hb;have HB_1:=hid (HB_0.out.trans (hb.mono (by have:=HB_0.out.size;omega)));have HX_1:=hid (HX_0.out.below hb);have HY_1:=hid (HY_0.out.below hb);clear ROW_0 HB_0 HX_0 HY_0 hb;clear HTAB;go_wp2_with ((with_reducible show wpList _ _ _ (Oper.mk _ (Op.load 26 _) _ _ _ _::_) _ _);refine wpList_load_row rfl 26 _ rfl b0 rfl _ _ _ _ ROW_1 Tryz.underlying26 rfl (by kernel_rfl) ?_)
 refine(HOWN.out w1 HB_1.out).mono ?_;rintro e w2 ⟨tv2,rfl,ho,hb⟩;have ROW_2:=qb ROW_1 hb;have HB_2:=hid (HB_1.out.trans (hb.mono (by have:=HB_1.out.size;omega)));have HX_2:=hid (HX_1.out.below hb);have HY_2:=hid (HY_1.out.below hb);clear ROW_1 HB_1 HX_1 HY_1 hb;have HTtv2:=hid ho;clear ho;have HQ:=hid (ZO HTtv2.out HL.out _ _ HX_2.out HXN.out);go_wp2_with fail
 refine(HQ.out).mono ?_;rintro e w3 ⟨xp,rfl,hx,hb⟩;have ROW_3:=qb ROW_2 hb;have HB_3:=hid (HB_2.out.trans (hb.mono (by have:=HB_2.out.size;omega)));have HX_3:=hid (HX_2.out.below hb);have HY_3:=hid (HY_2.out.below hb);clear ROW_2 HB_2 HX_2 HY_2 hb;have Hxp_3:=hid (hx);clear hx HQ HTtv2;go_wp2_with ((with_reducible show wpList _ _ _ (Oper.mk _ (Op.load 26 _) _ _ _ _::_) _ _);refine wpList_load_row rfl 26 _ rfl b0 rfl _ _ _ _ ROW_3 Tryz.underlying26 rfl (by kernel_rfl) ?_)
 refine(HOWN.out w3 HB_3.out).mono ?_;rintro e w4 ⟨tv4,rfl,ho,hb⟩;have ROW_4:=qb ROW_3 hb;have HB_4:=hid (HB_3.out.trans (hb.mono (by have:=HB_3.out.size;omega)));have HX_4:=hid (HX_3.out.below hb);have HY_4:=hid (HY_3.out.below hb);have Hxp_4:=hid (Hxp_3.out.below hb);clear ROW_3 HB_3 HX_3 HY_3 Hxp_3 hb;have HTtv4:=hid ho;clear ho;have HQ:=hid (ZO HTtv4.out HL.out _ _ HY_4.out HYN.out);go_wp2_with fail
 refine(HQ.out).mono ?_;rintro e w5 ⟨xq,rfl,hx,hb⟩;have ROW_5:=qb ROW_4 hb;have HB_5:=hid (HB_4.out.trans (hb.mono (by have:=HB_4.out.size;omega)));have HX_5:=hid (HX_4.out.below hb);have HY_5:=hid (HY_4.out.below hb);have Hxp_5:=hid (Hxp_4.out.below hb);clear ROW_4 HB_4 HX_4 HY_4 Hxp_4 hb;have Hxq_5:=hid (hx);clear hx HQ HTtv4;go_wp2_with ((with_reducible show wpList _ _ _ (Oper.mk _ (Op.load 26 _) _ _ _ _::_) _ _);refine wpList_load_row rfl 26 _ rfl b0 rfl _ _ _ _ ROW_5 Tryz.underlying26 rfl (by kernel_rfl) ?_)
 refine(HOWN.out w5 HB_5.out).mono ?_;rintro e w6 ⟨tv6,rfl,ho,hb⟩;have ROW_6:=qb ROW_5 hb;have HB_6:=hid (HB_5.out.trans (hb.mono (by have:=HB_5.out.size;omega)));have HX_6:=hid (HX_5.out.below hb);have HY_6:=hid (HY_5.out.below hb);have Hxp_6:=hid (Hxp_5.out.below hb);have Hxq_6:=hid (Hxq_5.out.below hb);clear ROW_5 HB_5 HX_5 HY_5 Hxp_5 Hxq_5 hb;have HTtv6:=hid ho;clear ho;obtain⟨E,hE⟩:=Ex (t.clashE kz z1 z2 xs ys);have hq:=Z9 HTtv6.out HL.out _ _ _ _ HX_6.out HY_6.out HXN.out HYN.out;rw[hE]at hq;have HQ:=hid hq;clear hq;go_wp2_with fail
 refine(HQ.out).mono ?_;rintro e w7 ⟨⟨c1,c2,r,i2,rfl,hP⟩,hb⟩;obtain⟨sa,sb,hc1,hc2,hD⟩:=hP.any;rw[hE]at hD;have ROW_7:=qb ROW_6 hb;have HB_7:=hid (HB_6.out.trans (hb.mono (by have:=HB_6.out.size;omega)));have HX_7:=hid (HX_6.out.below hb);have HY_7:=hid (HY_6.out.below hb);have Hxp_7:=hid (Hxp_6.out.below hb);have Hxq_7:=hid (Hxq_6.out.below hb);clear ROW_6 HB_6 HX_6 HY_6 Hxp_6 Hxq_6 hb;obtain⟨a1sa,j1sa,a2sa,j2sa,a3sa,j3sa,rfl⟩:=hc1.lit;obtain⟨a1sb,j1sb,a2sb,j2sb,a3sb,j3sb,rfl⟩:=hc2.lit;have HD:=hid hD;have CA_7:=hid (hc1);have CB_7:=hid (hc2);clear hP hc1 hc2 hD HQ HTtv6;have HE:=hid hE;clear hE;obtain⟨b7,hb7⟩:=Ex w7.heap.size;go_upto_region 6 with(fail)
 refine qj ?_;intro w8 hw;have hb:Below w7.heap.size w7 w8:=by rw[hw];exact(Br.alloc Nl _).alloc (by rw[qw];omega) _
 have hA:w8.heap[b7]? =some (.cells #[.int .i64 sa.k,.slice a1sa sa.bs.length j1sa,.slice a2sa sa.kz.length j2sa,.bool sa.la,.int .i64 sa.o,.slice a3sa sa.ds.length j3sa] 40 (0,0)):=by
  rw[hw];exact qb (qN hb7) (Br.alloc Nl _)
 have hA2:w8.heap[b7+1]? =some (.cells #[.int .i64 sb.k,.slice a1sb sb.bs.length j1sb,.slice a2sb sb.kz.length j2sb,.bool sb.la,.int .i64 sb.o,.slice a3sb sb.ds.length j3sb] 40 (0,0)):=by
  rw[hw];exact qN (by rw[qw,hb7])
 clear hw;have ROW_8:=qb ROW_7 hb;have HB_8:=hid (HB_7.out.trans (hb.mono (by have:=HB_7.out.size;omega)));have HX_8:=hid (HX_7.out.below hb);have HY_8:=hid (HY_7.out.below hb);have Hxp_8:=hid (Hxp_7.out.below hb);have Hxq_8:=hid (Hxq_7.out.below hb);have CA_8:=hid (CA_7.out.below hb);have CB_8:=hid (CB_7.out.below hb);clear ROW_7 HB_7 HX_7 HY_7 Hxp_7 Hxq_7 CA_7 CB_7 hb;have RA_8:=hA;have RB_8:=hA2;clear hA hA2;have K:(t.validE≠0∧E=t.validE)∨(t.validE=0∧xs=ys∧E=120)∨(t.validE=0∧xs≠ys∧t.digZ kz z1 z2 xs≠t.digZ kz z1 z2 ys∧E=6)∨(t.validE=0∧xs≠ys∧t.digZ kz z1 z2 xs=t.digZ kz z1 z2 ys∧E=0):=by
  have e:=HE.out;unfold TreeV.clashE at e;by_cases k1:t.validE=0
  ·rw[if_neg (by simp[k1])]at e;by_cases k2:xs=ys
   ·rw[if_pos k2]at e;exact .inr (.inl ⟨k1,k2,e.symm⟩)
   ·rw[if_neg k2]at e;by_cases k3:t.digZ kz z1 z2 xs=t.digZ kz z1 z2 ys
    ·rw[if_pos k3]at e;exact .inr (.inr (.inr ⟨k1,k2,k3,e.symm⟩))
    ·rw[if_neg k3]at e;exact .inr (.inr (.inl ⟨k1,k2,k3,e.symm⟩))
  ·rw[if_pos k1]at e;exact .inl ⟨k1,e.symm⟩
 have hsx:=Zm xs ys _ _ w8 HX_8.out HY_8.out;rcases K with⟨hv,rfl⟩|⟨hv,hxy,rfl⟩|⟨hv,hxy,hdg,rfl⟩|⟨hv,hxy,hdg,rfl⟩
 ·have hq:(t.validE != 0)=true:=by rw[bne_iff_ne];exact hv
  clear hv hsx;go_wp2
  go_ret
  exact⟨rfl,by rw[hb0];exact HB_8.out⟩
 ·rw[decide_eq_true hxy]at hsx;have HSX:=hid hsx;simp only[hv];clear hsx hxy hv;go_wp2_with fail
  refine HSX.out.mono ?_;rintro e w9 ⟨rfl,m,hm⟩;have hb:Below w8.heap.size w8 w9:=by rw[hm];exact Qp _ _
  have HB9:=hid (HB_8.out.trans (hb.mono (by have:=HB_8.out.size;omega)));clear hb hm;go_wp2
  go_ret
  exact⟨rfl,by rw[hb0];exact HB9.out⟩
 ·rw[decide_eq_false hxy]at hsx;have HSX:=hid hsx;have HDG:=hid hdg;simp only[hv];clear hsx hxy hv hdg;go_wp2_with fail
  refine HSX.out.mono ?_;rintro e w9 ⟨rfl,m,hm⟩;have hb:Below w8.heap.size w8 w9:=by rw[hm];exact Qp _ _
  have hsp:=Zm (t.digZ kz z1 z2 xs) (t.digZ kz z1 z2 ys) _ _ w9 (Hxp_8.out.below hb) (Hxq_8.out.below hb);rw[decide_eq_false HDG.out]at hsp;have HSP:=hid hsp;have HB9:=hid (HB_8.out.trans (hb.mono (by have:=HB_8.out.size;omega)));clear hb hm hsp;go_wp2_with fail
  refine HSP.out.mono ?_;rintro e w10 ⟨rfl,m,hm⟩;have hb:Below w9.heap.size w9 w10:=by rw[hm];exact Qp _ _
  have HB10:=hid (HB9.out.trans (hb.mono (by have:=HB9.out.size;omega)));clear hb hm;go_wp2
  go_ret
  exact⟨rfl,by rw[hb0];exact HB10.out⟩
 rw[decide_eq_false hxy]at hsx;have HSX:=hid hsx;obtain⟨row,at_,hD2⟩:=HD.out rfl;have hout:=qdw hv HL.out (HSB.out hv).1 (HSB.out hv).2 HXN.out HYN.out hdg hD2;obtain⟨hoo,⟨ra,ja,hra,hca⟩,⟨rb,jb,hrb,hcb⟩⟩:=hout;have HGA:=hid (qan (HOK.out hv) HXN.out hra hca);have HGB:=hid (qan (HOK.out hv) HYN.out hrb hcb);obtain⟨pa,hpa⟩:=qby hv hra hca;obtain⟨pb,hpb⟩:=qby hv hrb hcb;have HPA:=hid hpa;have HPB:=hid hpb;have HOO:=hid hoo;have HAB:=hid (YG hD2).2;have HDG:=hid hdg;have HVV:=hid hv;simp only[hv];clear hsx hxy hv hdg hD2 hoo hra hca hrb hcb hpa hpb HD HE HSB HOK;go_wp2_with fail
 refine HSX.out.mono ?_;rintro e w9 ⟨rfl,m,hm⟩;have hb:Below w8.heap.size w8 w9:=by rw[hm];exact Qp _ _
 clear hm HSX;have ROW_9:=qb ROW_8 hb;have HB_9:=hid (HB_8.out.trans (hb.mono (by have:=HB_8.out.size;omega)));have HX_9:=hid (HX_8.out.below hb);have HY_9:=hid (HY_8.out.below hb);have Hxp_9:=hid (Hxp_8.out.below hb);have Hxq_9:=hid (Hxq_8.out.below hb);have CA_9:=hid (CA_8.out.below hb);have CB_9:=hid (CB_8.out.below hb);have RA_9:=qb RA_8 hb;have RB_9:=qb RB_8 hb;clear ROW_8 HB_8 HX_8 HY_8 Hxp_8 Hxq_8 CA_8 CB_8 RA_8 RB_8 hb;have HSP:=hid (zI _ _ _ w9 (HDG.out▸Hxp_9.out) Hxq_9.out);go_wp2_with fail
 refine HSP.out.mono ?_;rintro e w10 ⟨rfl,m,hm⟩;have hb:Below w9.heap.size w9 w10:=by rw[hm];exact Qp _ _
 clear hm HSP;have ROW_10:=qb ROW_9 hb;have HB_10:=hid (HB_9.out.trans (hb.mono (by have:=HB_9.out.size;omega)));have HX_10:=hid (HX_9.out.below hb);have HY_10:=hid (HY_9.out.below hb);have Hxp_10:=hid (Hxp_9.out.below hb);have Hxq_10:=hid (Hxq_9.out.below hb);have CA_10:=hid (CA_9.out.below hb);have CB_10:=hid (CB_9.out.below hb);have RA_10:=qb RA_9 hb;have RB_10:=qb RB_9 hb;clear ROW_9 HB_9 HX_9 HY_9 Hxp_9 Hxq_9 CA_9 CB_9 RA_9 RB_9 hb;clear Hxp_10;clear Hxq_10;have hq:=yl sa sb _ _ w10 CA_10.out CB_10.out;rw[show yB sa sb=false by cases h:yB sa sb;rfl;exact absurd ((YA _ _).1 h) HAB.out]at hq;have HQ:=hid hq;clear hq;have cc1:=(QF RA_10).1;have cc2:=(QF RB_10).1;go_wp2_with fail
 refine HQ.out.mono ?_;rintro e w11 ⟨rfl,hb⟩;clear cc1 cc2 HQ;have ROW_11:=qb ROW_10 hb;have HB_11:=hid (HB_10.out.trans (hb.mono (by have:=HB_10.out.size;omega)));have HX_11:=hid (HX_10.out.below hb);have HY_11:=hid (HY_10.out.below hb);have CA_11:=hid (CA_10.out.below hb);have CB_11:=hid (CB_10.out.below hb);have RA_11:=qb RA_10 hb;have RB_11:=qb RB_10 hb;clear ROW_10 HB_10 HX_10 HY_10 CA_10 CB_10 RA_10 RB_10 hb;have cc:=(QF RA_11).1;have HQ:=hid (yw HVV.out HGA.out CA_11.out);go_wp2_with fail
 refine HQ.out.mono ?_;rintro e w12 ⟨x1,rfl,hx,hb⟩;clear cc HQ;have ROW_12:=qb ROW_11 hb;have HB_12:=hid (HB_11.out.trans (hb.mono (by have:=HB_11.out.size;omega)));have HX_12:=hid (HX_11.out.below hb);have HY_12:=hid (HY_11.out.below hb);have CA_12:=hid (CA_11.out.below hb);have CB_12:=hid (CB_11.out.below hb);have RA_12:=qb RA_11 hb;have RB_12:=qb RB_11 hb;clear ROW_11 HB_11 HX_11 HY_11 CA_11 CB_11 RA_11 RB_11 hb;have Hx1_12:=hid (hx);clear hx;have cc:=(QF RB_12).1;have HQ:=hid (yw HVV.out HGB.out CB_12.out);go_wp2_with fail
 refine HQ.out.mono ?_;rintro e w13 ⟨x2,rfl,hx,hb⟩;clear cc HQ;have ROW_13:=qb ROW_12 hb;have HB_13:=hid (HB_12.out.trans (hb.mono (by have:=HB_12.out.size;omega)));have HX_13:=hid (HX_12.out.below hb);have HY_13:=hid (HY_12.out.below hb);have CA_13:=hid (CA_12.out.below hb);have CB_13:=hid (CB_12.out.below hb);have RA_13:=qb RA_12 hb;have RB_13:=qb RB_12 hb;have Hx1_13:=hid (Hx1_12.out.below hb);clear ROW_12 HB_12 HX_12 HY_12 CA_12 CB_12 RA_12 RB_12 Hx1_12 hb;have Hx2_13:=hid (hx);clear hx;have cc1:=(QF RA_13).1;have cc2:=(QF RB_13).1;have HQ:=hid (qcp HVV.out HGA.out HGB.out HOO.out HAB.out _ _ w13 CA_13.out CB_13.out);go_wp2_with fail
 refine HQ.out.mono ?_;rintro e w14 ⟨rfl,hb⟩;clear cc1 cc2 HQ;have ROW_14:=qb ROW_13 hb;have HB_14:=hid (HB_13.out.trans (hb.mono (by have:=HB_13.out.size;omega)));have HX_14:=hid (HX_13.out.below hb);have HY_14:=hid (HY_13.out.below hb);have CA_14:=hid (CA_13.out.below hb);have CB_14:=hid (CB_13.out.below hb);have RA_14:=qb RA_13 hb;have RB_14:=qb RB_13 hb;have Hx1_14:=hid (Hx1_13.out.below hb);have Hx2_14:=hid (Hx2_13.out.below hb);clear ROW_13 HB_13 HX_13 HY_13 CA_13 CB_13 RA_13 RB_13 Hx1_13 Hx2_13 hb;have hol:=qd3 HGA.out;obtain⟨oa,oc,rfl, -, -⟩:=Hx1_14.out.slice;generalize hon:(t.outS sa).length=on at*;have hl0:((on:Int)==0)=false:=by rw[beq_eq_false_iff_ne];omega
 clear hon;have HSP:=hid (zI (t.outS sb) _ _ w14 (HOO.out▸Hx1_14.out) Hx2_14.out);clear hol;go_wp2_with fail
 refine HSP.out.mono ?_;rintro e w15 ⟨rfl,m,hm⟩;have hb:Below w14.heap.size w14 w15:=by rw[hm];exact Qp _ _
 clear hm HSP;have ROW_15:=qb ROW_14 hb;have HB_15:=hid (HB_14.out.trans (hb.mono (by have:=HB_14.out.size;omega)));have HX_15:=hid (HX_14.out.below hb);have HY_15:=hid (HY_14.out.below hb);have CA_15:=hid (CA_14.out.below hb);have CB_15:=hid (CB_14.out.below hb);have RA_15:=qb RA_14 hb;have RB_15:=qb RB_14 hb;have Hx1_15:=hid (Hx1_14.out.below hb);have Hx2_15:=hid (Hx2_14.out.below hb);clear ROW_14 HB_14 HX_14 HY_14 CA_14 CB_14 RA_14 RB_14 Hx1_14 Hx2_14 hb;clear Hx1_15;clear Hx2_15;go_wp2_with ((with_reducible show wpList _ _ _ (Oper.mk _ (Op.load 26 _) _ _ _ _::_) _ _);refine wpList_load_row rfl 26 _ rfl b0 rfl _ _ _ _ ROW_15 Tryz.underlying26 rfl (by kernel_rfl) ?_)
 refine(HOWN.out w15 HB_15.out).mono ?_;rintro e w16 ⟨tv16,rfl,ho,hb⟩;have ROW_16:=qb ROW_15 hb;have HB_16:=hid (HB_15.out.trans (hb.mono (by have:=HB_15.out.size;omega)));have HX_16:=hid (HX_15.out.below hb);have HY_16:=hid (HY_15.out.below hb);have CA_16:=hid (CA_15.out.below hb);have CB_16:=hid (CB_15.out.below hb);have RA_16:=qb RA_15 hb;have RB_16:=qb RB_15 hb;clear ROW_15 HB_15 HX_15 HY_15 CA_15 CB_15 RA_15 RB_15 hb;have HTtv16:=hid ho;clear ho;have hq:=qam HTtv16.out HL.out _ _ HX_16.out HXN.out;unfold qcX at hq;rw[HVV.out]at hq;have HQ:=hid hq;have hszl1:w16.heap.size≤w16.heap.size:=Nat.le_refl _;clear hq;go_wp2_with fail
 refine(HQ.out).mono ?_;rintro e w17 ⟨l1,rfl,hcl,hb⟩;have hsz2l1:=hb.size;have ROW_17:=qb ROW_16 hb;have HB_17:=hid (HB_16.out.trans (hb.mono (by have:=HB_16.out.size;omega)));have HX_17:=hid (HX_16.out.below hb);have HY_17:=hid (HY_16.out.below hb);have CA_17:=hid (CA_16.out.below hb);have CB_17:=hid (CB_16.out.below hb);have RA_17:=qb RA_16 hb;have RB_17:=qb RB_16 hb;clear ROW_16 HB_16 HX_16 HY_16 CA_16 CB_16 RA_16 RB_16 hb;have HCl1:=hid hcl;clear hcl HQ HTtv16 hszl1;have H17_17:=hid (Below.refl w17.heap.size w17);go_wp2_with ((with_reducible show wpList _ _ _ (Oper.mk _ (Op.load 26 _) _ _ _ _::_) _ _);refine wpList_load_row rfl 26 _ rfl b0 rfl _ _ _ _ ROW_17 Tryz.underlying26 rfl (by kernel_rfl) ?_)
 refine(HOWN.out w17 HB_17.out).mono ?_;rintro e w18 ⟨tv18,rfl,ho,hb⟩;have ROW_18:=qb ROW_17 hb;have HB_18:=hid (HB_17.out.trans (hb.mono (by have:=HB_17.out.size;omega)));have HX_18:=hid (HX_17.out.below hb);have HY_18:=hid (HY_17.out.below hb);have CA_18:=hid (CA_17.out.below hb);have CB_18:=hid (CB_17.out.below hb);have RA_18:=qb RA_17 hb;have RB_18:=qb RB_17 hb;have H17_18:=hid (H17_17.out.trans (hb.mono (by have:=H17_17.out.size;omega)));clear ROW_17 HB_17 HX_17 HY_17 CA_17 CB_17 RA_17 RB_17 H17_17 hb;have HTtv18:=hid ho;clear ho;have hq:=qam HTtv18.out HL.out _ _ HY_18.out HYN.out;unfold qcX at hq;rw[HVV.out]at hq;have HQ:=hid hq;have hszl2:w18.heap.size≤w18.heap.size:=Nat.le_refl _;clear hq;go_wp2_with fail
 refine(HQ.out).mono ?_;rintro e w19 ⟨l2,rfl,hcl,hb⟩;have hsz2l2:=hb.size;have ROW_19:=qb ROW_18 hb;have HB_19:=hid (HB_18.out.trans (hb.mono (by have:=HB_18.out.size;omega)));have HX_19:=hid (HX_18.out.below hb);have HY_19:=hid (HY_18.out.below hb);have CA_19:=hid (CA_18.out.below hb);have CB_19:=hid (CB_18.out.below hb);have RA_19:=qb RA_18 hb;have RB_19:=qb RB_18 hb;have H17_19:=hid (H17_18.out.trans (hb.mono (by have:=H17_18.out.size;omega)));clear ROW_18 HB_18 HX_18 HY_18 CA_18 CB_18 RA_18 RB_18 H17_18 hb;have HCl2:=hid hcl;clear hcl HQ HTtv18 hszl2;have H19_19:=hid (Below.refl w19.heap.size w19);have hsz3:=H17_19.out.size;have HQ:=hid (qbI _ sa pa HPA.out w16 _ l1 _ w19 (by omega) (HCl1.out.below hsz2l1 H17_19.out) CA_19.out);have cc:=(QF RA_19).1;clear hsz3;go_wp2_with fail
 refine HQ.out.mono ?_;rintro e w20 ⟨rfl,hb⟩;clear cc HQ;have ROW_20:=qb ROW_19 hb;have HB_20:=hid (HB_19.out.trans (hb.mono (by have:=HB_19.out.size;omega)));have HX_20:=hid (HX_19.out.below hb);have HY_20:=hid (HY_19.out.below hb);have CA_20:=hid (CA_19.out.below hb);have CB_20:=hid (CB_19.out.below hb);have RA_20:=qb RA_19 hb;have RB_20:=qb RB_19 hb;have H17_20:=hid (H17_19.out.trans (hb.mono (by have:=H17_19.out.size;omega)));have H19_20:=hid (H19_19.out.trans (hb.mono (by have:=H19_19.out.size;omega)));clear ROW_19 HB_19 HX_19 HY_19 CA_19 CB_19 RA_19 RB_19 H17_19 H19_19 hb;have hsz3:=H19_20.out.size;have HQ:=hid (qbI _ sb pb HPB.out w18 _ l2 _ w20 (by omega) (HCl2.out.below hsz2l2 H19_20.out) CB_20.out);have cc:=(QF RB_20).1;clear hsz3;go_wp2_with fail
 refine HQ.out.mono ?_;rintro e w21 ⟨rfl,hb⟩;clear cc HQ;have ROW_21:=qb ROW_20 hb;have HB_21:=hid (HB_20.out.trans (hb.mono (by have:=HB_20.out.size;omega)));have HX_21:=hid (HX_20.out.below hb);have HY_21:=hid (HY_20.out.below hb);have CA_21:=hid (CA_20.out.below hb);have CB_21:=hid (CB_20.out.below hb);have RA_21:=qb RA_20 hb;have RB_21:=qb RB_20 hb;have H17_21:=hid (H17_20.out.trans (hb.mono (by have:=H17_20.out.size;omega)));have H19_21:=hid (H19_20.out.trans (hb.mono (by have:=H19_20.out.size;omega)));clear ROW_20 HB_20 HX_20 HY_20 CA_20 CB_20 RA_20 RB_20 H17_20 H19_20 hb;go_wp2
 go_ret
 exact⟨rfl,by rw[hb0];exact HB_21.out⟩
end Go.Proofs.YtdndeffmlhaipaaGreatDoor
