/- A message's path: it fits, it lies in memory, and it leads to the digest. No condition. -/
import Derived.Test.YtdndeffmlhaipaaGreatDoorM37
import Derived.ArgAppend
import Derived.Test.YtdndeffmlhaipaaGreatDoorM31
import Derived.Test.YtdndeffmlhaipaaGreatDoorM05
import Derived.Test.YtdndeffmlhaipaaGreatDoorM04
import Derived.Deep.Slices
import Derived.Test.YtdndeffmlhaipaaGreatDoorM30
import Derived.BigQuiet
import Derived.Deep.QuietTactic
import Derived.WalkMore
import Derived.Scope
import Derived.Sort.QuietIn
import Derived.BigRegionIn
import Derived.Lib.SmallJoins
import Derived.Maps.AppendAt
import Derived.Deep.AppendLies
import Derived.Deep.RegionHeld3
import Derived.Laws.AppendOwnNone
import Derived.Deep.DeepCutAuto
import Derived.Test.YtdndeffmlhaipaaGreatDoorM32
import Derived.Test.YtdndeffmlhaipaaGreatDoorM38
import Derived.Test.YtdndeffmlhaipaaGreatDoorM18
import Derived.Test.YtdndeffmlhaipaaGreatDoorM34
import Derived.Test.YtdndeffmlhaipaaGreatDoorM39
import Derived.Test.YtdndeffmlhaipaaGreatDoorM35
import Derived.Test.YtdndeffmlhaipaaGreatDoorM29
set_option linter.all false
set_option maxRecDepth 100000
set_option maxHeartbeats 8000000
namespace Go.Proofs.YtdndeffmlhaipaaGreatDoor
open Go.ChangeShapes Go.WideShapes Go.ChangeAt Go.RowKit Go.Joins Go.Shelf Go.Maps
theorem yh {t:TreeV}(h:t.validE=0)(hl:0≤t.l∧t.l≤4294967295)(kz z1 z2 zs:List Int)(hn:zs.length≤4194304){m k:Nat}(hm:(t.rowsOf zs.length).length - 1=m)(hk:k<m): ∀d∈t.lvlZ kz z1 z2 (t.leafZ kz z1 z2 zs) k,(d.length:Int)=t.i∧ ∀a∈d,0≤a∧a≤255:=by
 have her:=qK h hn;have hL:=qz h hl kz z1 z2 zs;have htop:=yY her kz z1 z2 (Qr h hl kz z1 z2 zs) hL.2.2;rw[hm]at htop;have hrt:t.rtR kz z1 z2 zs k=false:=by
  cases k with
  | zero=>rfl
  | succ r=>
   have:=htop.2.2 (r+1) (by omega) hk
   rw[Nat.add_sub_cancel]at this;exact this
 rw[TreeV.lvl_is,hrt];intro d hd;obtain⟨i, -,rfl⟩:=List.mem_map.1 hd;exact⟨Y1 h ..,fun a ha=>Yq _ _ _ _ _ _ _ _ _ a ha⟩
open Classical in
noncomputable def Qo:List CallS→List CallS→Nat→Option (CallS×CallS×Nat)
 | x::xs,y::ys,i=>if x=y then Qo xs ys (i+1) else some (x,y,i)
 | _,_,_=>none
noncomputable def Qu:List (List CallS)→List (List CallS)→Nat→Option (CallS×CallS×Nat×Nat)
 | x::xs,y::ys,row=>match Qo x y 0 with|some (a,b,i)=>some (a,b,row,i)|none=>Qu xs ys (row - 1)
 | _,_,_=>none
theorem Ye: ∀(x y:List CallS) (i:Nat),Qo x y i=none→x.length=y.length→x=y
 | [],[],_,_,_=>rfl
 | [],_::_,_,_,h=>by simp at h
 | _::_,[],_,_,h=>by simp at h
 | a::x,b::y,i,h,hl=>by
  unfold Qo at h;split at h
  ·rename_i e;rw[e,Ye x y (i+1) h (by simpa using hl)]
  ·cases h
def TreeV.downC (t:TreeV)(kz z1 z2 zs:List Int)(m:Nat):List (List CallS):=(List.range (m+1)).map fun d=>t.callsR kz z1 z2 zs (m - d)
theorem qcR {t:TreeV}(h:t.validE=0){z1 z2:List Int}(h1:z1.length≤sB t.big)(h2:z2.length≤sB t.big){r1 r2 a1 a2:Nat}(hr1:r1≤255)(hr2:r2≤255)(e:t.blk z1 z2 r1 a1=t.blk z1 z2 r2 a2):r1=r2:=by
 have key: ∀r a,r≤255→qp (t.blk z1 z2 r a) (atB t.big 8)=(r:Int):=by
  intro r a hr;unfold TreeV.blk;have hi:atB t.big 8<2*sB t.big:=by cases t.big<;>decide
  rw[zU h1 h2 hi,qu 8 (by omega) (by cases t.big<;>decide),zr 7 (by omega) (by omega) rfl];have e8:t.vN r a (7+1)=r:=by unfold TreeV.vN;simp
  rw[e8,YE hr]
 have k1:=key r1 a1 hr1;have k2:=key r2 a2 hr2;rw[e]at k1;rw[k1]at k2;omega
theorem zo {L:List (List Int)}{n:Nat}(h: ∀d∈L,d.length=n):L.flatten.length=L.length*n:=by
 induction L with
 | nil=>simp
 | cons x L ih=>
  rw[List.flatten_cons,List.length_append,h x List.mem_cons_self,ih (fun d hd=>h d (List.mem_cons_of_mem _ hd)),List.length_cons,Nat.add_mul,Nat.one_mul];omega
theorem zJ {t:TreeV}{kz z1 z2:List Int}{row:Nat}{rt1 rt2:Bool}{L1 L2:List (List Int)}(h:t.rowC kz z1 z2 row rt1 L1 L1.length=t.rowC kz z1 z2 row rt2 L2 L2.length):L1=L2:=by
 have hl:L1.length=L2.length:=by have:=congrArg List.length h;rwa[qq,qq]at this
 apply List.ext_getElem hl
 intro i h1 h2;have e:=congrArg (fun l:List CallS=>l[i]?) h;simp only[TreeV.rowC,List.getElem?_map,List.getElem?_range h1,List.getElem?_range h2,Option.map_some]at e;have e2:=congrArg CallS.ds (Option.some.inj e);simp only[TreeV.callS]at e2;unfold qJ at e2;rw[Lg,Lg,List.getElem?_eq_getElem h1,List.getElem?_eq_getElem h2]at e2;simpa using e2
theorem qcm {A B:List (List CallS)}{row:Nat}(h:Qu A B row=none): ∀d,d<A.length→d<B.length→Qo (A.getD d []) (B.getD d []) 0=none:=by
 induction A generalizing B row with
 | nil=>intro d hd;simp at hd
 | cons x A ih=>
  cases B with
  | nil=>intro d _ hd;simp at hd
  | cons y B=>
   intro d h1 h2;unfold Qu at h;split at h
   ·cases h
   ·rename_i e
    cases d with
    | zero=>exact e
    | succ d=>exact ih h d (by simpa using h1) (by simpa using h2)
theorem ZP (t:TreeV)(kz z1 z2 zs:List Int)(m:Nat):(t.downC kz z1 z2 zs m).length=m+1:=by simp[TreeV.downC]
theorem QW (t:TreeV)(kz z1 z2 zs:List Int){m d:Nat}(h:d<m+1):(t.downC kz z1 z2 zs m).getD d []=t.callsR kz z1 z2 zs (m - d):=by simp[TreeV.downC,Lg,h]
theorem qcn {t:TreeV}(h:t.validE=0)(hl:0≤t.l∧t.l≤4294967295){kz z1 z2 xs ys:List Int}(h1:z1.length≤sB t.big)(h2:z2.length≤sB t.big)(hx:xs.length≤4194304)(hy:ys.length≤4194304)
  (hd:Qu (t.downC kz z1 z2 xs ((t.rowsOf xs.length).length - 1)) (t.downC kz z1 z2 ys ((t.rowsOf ys.length).length - 1)) ((t.rowsOf xs.length).length - 1)=none):xs=ys:=by
 have hRx:=qM (qK h hx);have hRy:=qM (qK h hy);have hpn:t.pn≤255:=by have:=(qd h).2.2.2.2.2.2.2.1;unfold TreeV.pn;omega
 have hmx:=hRx.most;have hmy:=hRy.most;have hlx:=hRx.len;have hly:=hRy.len;obtain⟨m,hm⟩:=Ex ((t.rowsOf xs.length).length - 1);obtain⟨n,hn⟩:=Ex ((t.rowsOf ys.length).length - 1);rw[hm,hn]at hd;have hst:=qcm hd;simp only[ZP]at hst;have hLx:=qz h hl kz z1 z2 xs;have hLy:=qz h hl kz z1 z2 ys;have hRLx:=Qr h hl kz z1 z2 xs;have hRLy:=Qr h hl kz z1 z2 ys;have htx:=yY (qK h hx) kz z1 z2 hRLx hLx.2.2;have hty:=yY (qK h hy) kz z1 z2 hRLy hLy.2.2;rw[hm]at htx;rw[hn]at hty;have hnx: ∀r,r<(t.rowsOf xs.length).length→(t.dataR kz z1 z2 xs r).length=nth (t.rowsOf xs.length) r:=fun r hr=>by
  have e:=Qh (qK h hx) kz z1 z2 hRLx hLx.2.2 r hr;rw[TreeV.lvl_is,TreeV.rowZ_length]at e;exact e
 have hny: ∀r,r<(t.rowsOf ys.length).length→(t.dataR kz z1 z2 ys r).length=nth (t.rowsOf ys.length) r:=fun r hr=>by
  have e:=Qh (qK h hy) kz z1 z2 hRLy hLy.2.2 r hr;rw[TreeV.lvl_is,TreeV.rowZ_length]at e;exact e
 have h0:=hst 0 (by omega) (by omega);rw[QW _ _ _ _ _ (by omega),QW _ _ _ _ _ (by omega),Nat.sub_zero,Nat.sub_zero]at h0;have l1:(t.dataR kz z1 z2 xs m).length=1:=by rw[hnx m (by omega),←hm];exact hRx.last
 have l2:(t.dataR kz z1 z2 ys n).length=1:=by rw[hny n (by omega),←hn];exact hRy.last
 have e0:=Ye _ _ _ h0 (by unfold TreeV.callsR;rw[qq,qq,l1,l2]);have emn:m=n:=by
  have e1:=congrArg (fun l:List CallS=>l[0]?) e0;unfold TreeV.callsR at e1;rw[l1,l2]at e1;simp only[TreeV.rowC,List.getElem?_map,List.getElem?_range (Nat.zero_lt_one),Option.map_some]at e1;have e2:=congrArg CallS.bs (Option.some.inj e1);exact qcR h h1 h2 (by omega) (by omega) e2
 subst emn;have hall: ∀d,d≤m→t.dataR kz z1 z2 xs (m - d)=t.dataR kz z1 z2 ys (m - d):=by
  intro d;induction d with
  | zero=>
   intro _;rw[Nat.sub_zero];exact zJ e0
  | succ d ih=>
   intro hdm;have ih2:=ih (by omega);obtain⟨r,hr⟩: ∃r,m - d=r+1:=⟨m - d - 1,by omega⟩;rw[show m - (d+1)=r by omega];rw[hr]at ih2;have hr1:r<m:=by omega
   have f1:(t.dataR kz z1 z2 xs (r+1)).flatten=(t.lvlZ kz z1 z2 (t.leafZ kz z1 z2 xs) r).flatten:=yz h (r+1) _;have f2:(t.dataR kz z1 z2 ys (r+1)).flatten=(t.lvlZ kz z1 z2 (t.leafZ kz z1 z2 ys) r).flatten:=yz h (r+1) _;rw[ih2,f2]at f1;have ti:=(qd h).2.2.2.1;have g1:=zo (n:=t.i.toNat) (fun d hd=>by have:=(yh h hl kz z1 z2 xs hx hm hr1 d hd).1;omega);have g2:=zo (n:=t.i.toNat) (fun d hd=>by have:=(yh h hl kz z1 z2 ys hy hn hr1 d hd).1;omega);have g3:=congrArg List.length f1;rw[g1,g2]at g3;have g4:(t.lvlZ kz z1 z2 (t.leafZ kz z1 z2 ys) r).length=(t.lvlZ kz z1 z2 (t.leafZ kz z1 z2 xs) r).length:=Nat.eq_of_mul_eq_mul_right (by omega) g3;rw[TreeV.lvl_is,TreeV.lvl_is,TreeV.rowZ_length,TreeV.rowZ_length]at g4;have g5:=hst (d+1) (by omega) (by omega);rw[QW _ _ _ _ _ (by omega),QW _ _ _ _ _ (by omega),show m - (d+1)=r by omega]at g5;exact zJ (Ye _ _ _ g5 (by rw[qq,qq,g4]))
 have hz:=hall m Nl;rw[Nat.sub_self]at hz;have hln:1≤t.ln:=(JD hl (qK h hx)).1;have:=congrArg List.flatten hz
 rwa[show t.dataR kz z1 z2 xs 0=yJ t.ln xs from rfl,show t.dataR kz z1 z2 ys 0=yJ t.ln ys from rfl,qbs hln,qbs hln]at this
def KC (s:Nat)(W W':World):Prop:=W.heap.size≤W'.heap.size∧ ∀(k:Nat) (c:Array Value) (T:TypeId) (fr:Nat×Nat),W.heap[k]? =some (.cells c T fr)→(T=40∨T=54∨T=26∨T=24∨T=5∨(k<s∧ ∃(i:Nat) (z:Int),c[i]? =some (Value.int .u8 z)))→W'.heap[k]? =some (.cells c T fr)
theorem KC.refl (s:Nat)(W:World):KC s W W:=⟨Nat.le_refl _,fun _ _ _ _ h _=>h⟩
theorem KC.trans {s:Nat}{A B C:World}(h:KC s A B)(k:KC s B C):KC s A C:=⟨Nat.le_trans h.1 k.1,fun b c T fr hb hT=>k.2 b c T fr (h.2 b c T fr hb hT) hT⟩
theorem KC.of_below {s:Nat}{W W':World}(h:Below W.heap.size W W'):KC s W W':=⟨h.size,fun _ _ _ _ hb _=>qb hb h⟩
theorem Q8 {s:Nat}{S:Nat→Prop}{W W':World}(h:Spare S W W')(hg: ∀k c T fr,W.heap[k]? =some (.cells c T fr)→ ¬S k→T≠40∧T≠54∧T≠26∧T≠24∧T≠5∧(k<s→ ∀(i:Nat) (z:Int),c[i]? ≠some (Value.int .u8 z))):KC s W W':=by
 refine⟨h.size,fun k c T fr hk hT=>?_⟩;by_cases hS:S k
 ·exact(h.block k (Ai hk).1 hS).trans hk
 obtain⟨h1,h2,h3,h4,h5,h6⟩:=hg k c T fr hk hS;rcases hT with hT|hT|hT|hT|hT|⟨hl,i,z,hz⟩
 ·exact absurd hT h1
 ·exact absurd hT h2
 ·exact absurd hT h3
 ·exact absurd hT h4
 ·exact absurd hT h5
 ·exact absurd hz (h6 hl i z)
def HoldS (s:Nat)(W:World)(v:Value)(zs:List Int):Prop:=Hold W v zs∧(zs=[]∨ ∀g,v.ownBlock=some g→g<s∨ ∃c fr,W.heap[g]? =some (.cells c 5 fr))
theorem HoldS.kc {s:Nat}{W W':World}{v:Value}{zs:List Int}(h:HoldS s W v zs)(k:KC s W W'):HoldS s W' v zs:=by
 obtain⟨h,hz⟩:=h;by_cases h0:zs=[]
 ·subst h0;refine⟨⟨h.1,?_⟩,.inl rfl⟩;rcases h.2 with h2|⟨ad,cap,rfl,h1,h2, -⟩
  ·exact .inl h2
  ·exact .inr ⟨ad,cap,rfl,h1,h2,.inl rfl⟩
 have hz:=hz.resolve_left h0;rcases h.2 with h2|⟨ad,cap,rfl,h1,h2,h3⟩
 ·exact absurd h2.1 h0
 obtain⟨b,off,rfl,h3,h4⟩:=h3.resolve_left h0;have hp:0<zs.length:=List.length_pos_iff.2 h0;obtain⟨o,ho⟩: ∃o,W.heap[b]? =some o:=⟨_,Array.getElem?_eq_getElem h3⟩;have h40:=h4 0 hp;obtain⟨c,T,fr,rfl⟩: ∃c T fr,o= .cells c T fr:=by
  unfold World.cell? at h40;rw[show W.heap[(⟨b,off+0,none⟩:Addr).block]? =some o from ho]at h40
  cases o<;>simp at h40
  exact⟨_,_,_,rfl⟩
 have hw:W'.heap[b]? =some (.cells c T fr):=by
  refine k.2 b c T fr ho ?_;rcases hz b rfl with hb|⟨c',fr',hc'⟩
  ·exact .inr (.inr (.inr (.inr (.inr ⟨hb,off+0,_,by rw[←qa ho];exact h40⟩))))
  ·rw[ho]at hc';simp only[Option.some.injEq,Obj.cells.injEq]at hc';exact .inr (.inr (.inr (.inr (.inl hc'.2.1))))
 refine⟨⟨h.1,.inr ⟨_,cap,rfl,h1,h2,.inr ⟨b,off,rfl,Nat.lt_of_lt_of_le h3 k.1,fun i hi=>?_⟩⟩⟩,.inr fun g hg=>?_⟩
 ·rw[qa hw,←qa ho];exact h4 i hi
 ·rcases hz g hg with hb|⟨c',fr',hc'⟩
  ·exact .inl hb
  ·exact .inr ⟨c',fr',k.2 _ _ _ _ hc' (.inr (.inr (.inr (.inr (.inl rfl)))))⟩
theorem HoldS.mono {s s':Nat}{W:World}{v:Value}{zs:List Int}(h:HoldS s W v zs)(hs:s≤s'):HoldS s' W v zs:=by
 refine⟨h.1,?_⟩;rcases h.2 with h2|h2
 ·exact .inl h2
 ·refine .inr fun g hg=>?_
  rcases h2 g hg with h3|h3
  ·exact .inl (by omega)
  ·exact .inr h3
theorem qaf {B s:Nat}{W:World}{v:Value}{z:List Int}(h:OwnB B W v z):HoldS s W v z:=by
 refine⟨h.hold,?_⟩;rcases h.2 with⟨hz, -⟩|⟨g,cap,cur,rfl,h1,h2, -⟩
 ·exact .inl hz
 ·refine .inr fun g' hg=>?_
  cases hg
  exact .inr ⟨_,_,h2⟩
theorem Jl {w0 W:World}{B s:Nat}{v:Value}{z:List Int}(h:KeepH w0 B W v z)(hs:w0.heap.size≤s):HoldS s W v z:=by
 rcases h with h|⟨h,hb⟩
 ·exact qaf h
 refine⟨h.below hb,?_⟩;by_cases h0:z=[]
 ·exact .inl h0
 rcases h.2 with h2|⟨ad,cap,rfl,h1,h2,h3⟩
 ·exact .inl h2.1
 obtain⟨b,off,rfl,h3, -⟩:=h3.resolve_left h0;refine .inr fun g hg=>?_
 cases hg
 exact .inl (show b<s by omega)
def CallsL (s:Nat)(W:World)(g off:Nat)(S:List CallS):Prop:= ∃cur:Array Value,W.heap[g]? =some (.cells cur 40 (0,0))∧ ∀i,i<S.length→ ∃a1 n1 c1 a2 n2 c2 a3 n3 c3,(∀j,j<6→cur[off+i*6+j]? =(qx (S.getD i .zero).k (.slice a1 n1 c1) (.slice a2 n2 c2) (S.getD i .zero).la (S.getD i .zero).o (.slice a3 n3 c3))[j]?)∧HoldS s W (.slice a1 n1 c1) (S.getD i .zero).bs∧HoldS s W (.slice a2 n2 c2) (S.getD i .zero).kz∧HoldS s W (.slice a3 n3 c3) (S.getD i .zero).ds
theorem CallsL.kc {s:Nat}{W W':World}{g off:Nat}{S:List CallS}(h:CallsL s W g off S)(k:KC s W W'):CallsL s W' g off S:=by
 obtain⟨cur,h1,h2⟩:=h;refine⟨cur,k.2 _ _ _ _ h1 (.inl rfl),fun i hi=>?_⟩;obtain⟨a1,n1,c1,a2,n2,c2,a3,n3,c3,h3,h4,h5,h6⟩:=h2 i hi;exact⟨a1,n1,c1,a2,n2,c2,a3,n3,c3,h3,h4.kc k,h5.kc k,h6.kc k⟩
theorem CallsL.mono {s s':Nat}{W:World}{g off:Nat}{S:List CallS}(h:CallsL s W g off S)(hs:s≤s'):CallsL s' W g off S:=by
 obtain⟨cur,h1,h2⟩:=h;refine⟨cur,h1,fun i hi=>?_⟩;obtain⟨a1,n1,c1,a2,n2,c2,a3,n3,c3,h3,h4,h5,h6⟩:=h2 i hi;exact⟨a1,n1,c1,a2,n2,c2,a3,n3,c3,h3,h4.mono hs,h5.mono hs,h6.mono hs⟩
theorem CallsL.right {s:Nat}{W:World}{g off:Nat}{A B:List CallS}(h:CallsL s W g off (A++B)):CallsL s W g (off+A.length*6) B:=by
 obtain⟨cur,h1,h2⟩:=h;refine⟨cur,h1,fun i hi=>?_⟩;obtain⟨a1,n1,c1,a2,n2,c2,a3,n3,c3,h3,h4,h5,h6⟩:=h2 (A.length+i) (by rw[List.length_append];omega);have e:(A++B).getD (A.length+i) .zero=B.getD i .zero:=by
  rw[Lg,Lg,List.getElem?_append_right (by omega),Nat.add_sub_cancel_left]
 rw[e]at h3 h4 h5 h6;refine⟨a1,n1,c1,a2,n2,c2,a3,n3,c3,fun j hj=>?_,h4,h5,h6⟩;rw[←h3 j hj,Nat.add_mul];congr 1
 omega
theorem CallsL.left {s:Nat}{W:World}{g off:Nat}{A B:List CallS}(h:CallsL s W g off (A++B)):CallsL s W g off A:=by
 obtain⟨cur,h1,h2⟩:=h;refine⟨cur,h1,fun i hi=>?_⟩;obtain⟨a1,n1,c1,a2,n2,c2,a3,n3,c3,h3,h4,h5,h6⟩:=h2 i (by rw[List.length_append];omega);have e:(A++B).getD i .zero=A.getD i .zero:=by
  rw[Lg,Lg,List.getElem?_append_left hi]
 rw[e]at h3 h4 h5 h6;exact⟨a1,n1,c1,a2,n2,c2,a3,n3,c3,h3,h4,h5,h6⟩
def LevH (s:Nat)(W:World)(v:Value)(S:List CallS):Prop:= ∃g off cap,v= .slice (some ⟨g,off,none⟩) S.length cap∧S.length≤cap∧(cap:Int)≤9223372036854775807∧g<W.heap.size∧CallsL s W g off S
theorem LevH.kc {s:Nat}{W W':World}{v:Value}{S:List CallS}(h:LevH s W v S)(k:KC s W W'):LevH s W' v S:=by
 obtain⟨g,off,cap,e,h1,h2,h3,h4⟩:=h;exact⟨g,off,cap,e,h1,h2,Nat.lt_of_lt_of_le h3 k.1,h4.kc k⟩
theorem LevH.mono {s s':Nat}{W:World}{v:Value}{S:List CallS}(h:LevH s W v S)(hs:s≤s'):LevH s' W v S:=by
 obtain⟨g,off,cap,e,h1,h2,h3,h4⟩:=h;exact⟨g,off,cap,e,h1,h2,h3,h4.mono hs⟩
theorem qeV {s:Nat}{w0 W:World}{B:Nat}{v:Value}{S:List CallS}(h:CallsO w0 B W v S)(hs:w0.heap.size≤s)(hS:0<S.length): ∃g cap,v= .slice (some ⟨g,0,none⟩) S.length cap∧S.length≤cap∧(cap:Int)≤9223372036854775807∧g<W.heap.size∧CallsL s W g 0 S:=by
 have hc:=h;obtain⟨cs,hl,ho,hx⟩:=h;rcases ho.2 with⟨-,e⟩|⟨g,cap,cur,rfl,h1,h2,h3,h4,h5,h6⟩
 ·omega
 refine⟨g,cap,rfl,h3,by unfold maxLen at h4;omega,(Ai h2).1,cur,h2,fun i hi=>?_⟩;obtain⟨a1,n1,c1,a2,n2,c2,a3,n3,c3,ec,q1,q2,q3⟩:=hx i hi;obtain⟨g',cap',cur',bv,kv,dv,e, -,k2,k3, -, -, -⟩:=hc.get hi rfl;simp only[Value.slice.injEq,Option.some.injEq,Addr.mk.injEq,and_true]at e;obtain⟨⟨rfl, -⟩, -⟩:=e;rw[h2]at k2;simp only[Option.some.injEq,Obj.cells.injEq,and_true]at k2;subst k2;have hc6: ∀c∈cs,c.length=6:=fun c hc=>by
  obtain⟨q,hq,rfl⟩:=List.mem_iff_getElem.1 hc;obtain⟨_,_,_,e, -⟩:=(hx q (by omega)).cells;rw[Lg,List.getElem?_eq_getElem hq]at e;simp only[Option.getD_some]at e;rw[e];rfl
 refine⟨a1,n1,c1,a2,n2,c2,a3,n3,c3,fun j hj=>?_,qaf q1,Jl q2 hs,Jl q3 hs⟩;have h8:=qaM hc6 (i:=i) (j:=j) (by omega) hj;rw[ec]at h8;have e9:cur.toList[i*6+j]? =cs.flatten[i*6+j]? :=by rw[←h6,List.getElem?_take,if_pos (by omega)]
 rw[Nat.zero_add,←Array.getElem?_toList,e9,h8];unfold qx;rw[List.getElem?_toArray]
theorem CallsL.callS {s:Nat}{W:World}{g off i:Nat}{S:List CallS}(h:CallsL s W g off S)(hi:i<S.length): ∃a1 n1 c1 a2 n2 c2 a3 n3 c3,(∀j,j<6→W.cell? ⟨g,off+i*6+j,none⟩=(qx (S.getD i .zero).k (.slice a1 n1 c1) (.slice a2 n2 c2) (S.getD i .zero).la (S.getD i .zero).o (.slice a3 n3 c3))[j]?)∧HoldS s W (.slice a1 n1 c1) (S.getD i .zero).bs∧HoldS s W (.slice a2 n2 c2) (S.getD i .zero).kz∧HoldS s W (.slice a3 n3 c3) (S.getD i .zero).ds:=by
 obtain⟨cur,h1,h2⟩:=h;obtain⟨a1,n1,c1,a2,n2,c2,a3,n3,c3,h3,h4,h5,h6⟩:=h2 i hi;exact⟨a1,n1,c1,a2,n2,c2,a3,n3,c3,fun j hj=>by rw[qa h1];exact h3 j hj,h4,h5,h6⟩
end Go.Proofs.YtdndeffmlhaipaaGreatDoor
