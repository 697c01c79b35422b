/- ClashTrees: the walk. No condition. -/
import Derived.Test.YtdndeffmlhaipaaGreatC45
import Derived.Test.YtdndeffmlhaipaaGreatC46
import Derived.Test.YtdndeffmlhaipaaGreatC40
import Derived.Deep.CondSized
import Derived.JoinedCond
set_option linter.all false
set_option maxRecDepth 100000
set_option maxHeartbeats 8000000
namespace Go.Proofs.YtdndeffmlhaipaaGreat
open Go.ChangeShapes Go.WideShapes Go.ChangeAt Go.RowKit Go.Joins Go.Shelf Go.Maps
open Go.Lib (hid)
attribute [local go_sem] Oper.semAt_some
def isCall (W:World)(g:Nat):Prop:= ∃o,W.heap[g]? =some (.cells o 54 (0,0))∧o.size=6∧ ∀(i:Nat) (z:Int),o[i]? ≠some (Value.int .u8 z)
def GL (t:TreeV)(kz z1 z2 xs ys:List Int)(b1:Nat)(T full v1 slc v2:Value)(E:Int):Nat→(Tmp→Value)→World→Prop
 | 0,x,_=>x 21=T
 | 1,x,W=>OwnTree t kz z1 z2 b1 W (x 22)
 | 2,x,_=>x 23=full
 | 3,x,_=>x 24=v1
 | 4,x,_=>x 25= .int .i64 (xs.length:Nat)
 | 5,x,_=>x 26=slc
 | 6,x,_=>x 27=v2
 | 7,x,W=>OwnB b1 W (x 28) ys
 | 8,x,W=> ∃c1 c2 r i,x 29= .tuple #[.agg c1,.agg c2,.int .i64 E]∧PartSays t kz z1 z2 xs ys c1 c2 r i W
 | 9,x,W=> ∃c1 c2 r i,x 20= .tuple #[.agg c1,.agg c2,.int .i64 E]∧PartSays t kz z1 z2 xs ys c1 c2 r i W
 | 10,x,_=> ∃c1 c2,x 20= .tuple #[.agg c1,.agg c2,.int .i64 E]∧x 30= .agg c1
 | 11,x,_=> ∃c1 c2,x 20= .tuple #[.agg c1,.agg c2,.int .i64 E]∧x 31= .agg c2
 | 12,x,_=>x 32= .int .i64 E
 | 13,x,W=> ∃g,x 8= .pointer (some ⟨g,0,none⟩)∧b1≤g∧isCall W g
 | 14,x,W=> ∃g,x 9= .pointer (some ⟨g,0,none⟩)∧b1≤g∧isCall W g
 | 15,x,W=> ∃g c1 c2,x 20= .tuple #[.agg c1,.agg c2,.int .i64 E]∧x 8= .pointer (some ⟨g,0,none⟩)∧W.heap[g]? =some (.cells c1 54 (0,0))
 | 16,x,W=> ∃g c1 c2,x 20= .tuple #[.agg c1,.agg c2,.int .i64 E]∧x 9= .pointer (some ⟨g,0,none⟩)∧W.heap[g]? =some (.cells c2 54 (0,0))
 | 17,x,_=>x 10= .int .i64 E
 | _,_,_=>True
def DL (D:Nat→Bool)(x:Tmp→Value)(_:World):Prop:=D 13=true→D 14=true→ ∀g g',x 8= .pointer (some ⟨g,0,none⟩)→x 9= .pointer (some ⟨g',0,none⟩)→g≠g'
theorem isCall.below {W W':World}{g:Nat}(h:isCall W g)(hb:Below W.heap.size W W'):isCall W' g:=by
 obtain⟨o,h1,h2⟩:=h;exact⟨o,qc h1 hb,h2⟩
theorem GL.grow {t:TreeV}{kz z1 z2 xs ys:List Int}{b1:Nat}{T full v1 slc v2:Value}{E:Int}{x:Tmp→Value}{W W':World}{d:Tmp}{v:Value}{j:Nat}(hb:Below W.heap.size W W')
  (hd:(match j with|0=>[21]|1=>[22]|2=>[23]|3=>[24]|4=>[25]|5=>[26]|6=>[27]|7=>[28]|8=>[29]|9=>[20]|10=>[20,30]|11=>[20,31]|12=>[32]|13=>[8]|14=>[9]|15=>[20,8]|16=>[20,9]|17=>[10]|_=>([]:List Nat)).contains d=false) (h:GL t kz z1 z2 xs ys b1 T full v1 slc v2 E j x W):GL t kz z1 z2 xs ys b1 T full v1 slc v2 E j (yJ x (some d) v) W':=by
 have key: ∀e:Nat,e≠d→yJ x (some d) v e=x e:=fun e he=>by unfold yJ upd;simp[he]
 rcases j with _|_|_|_|_|_|_|_|_|_|_|_|_|_|_|_|_|_|j
 all_goals simp only[List.contains_cons,List.contains_nil,Bool.or_false,Bool.or_eq_false_iff,beq_eq_false_iff_ne,ne_eq]at hd
 all_goals try exact(key _ (fun e=>hd e.symm)).trans h
 ·have h':OwnTree t kz z1 z2 b1 W (x 22):=h;show OwnTree t kz z1 z2 b1 W' (yJ x (some d) v 22)
  rw[key 22 (fun e=>hd e.symm)];exact h'.below hb
 ·have h':OwnB b1 W (x 28) ys:=h;show OwnB b1 W' (yJ x (some d) v 28) ys
  rw[key 28 (fun e=>hd e.symm)];exact h'.kb (KB.of_below hb (Nat.zero_le _))
 ·obtain⟨c1,c2,r,i,e,hP⟩:=h;exact⟨c1,c2,r,i,(key 29 (fun e=>hd e.symm)).trans e,hP.below hb⟩
 ·obtain⟨c1,c2,r,i,e,hP⟩:=h;exact⟨c1,c2,r,i,(key 20 (fun e=>hd e.symm)).trans e,hP.below hb⟩
 ·obtain⟨c1,c2,e,e2⟩:=h;exact⟨c1,c2,(key 20 (fun e=>hd.1 e.symm)).trans e,(key 30 (fun e=>hd.2 e.symm)).trans e2⟩
 ·obtain⟨c1,c2,e,e2⟩:=h;exact⟨c1,c2,(key 20 (fun e=>hd.1 e.symm)).trans e,(key 31 (fun e=>hd.2 e.symm)).trans e2⟩
 ·obtain⟨g,e,hg,hc⟩:=h;exact⟨g,(key 8 (fun e=>hd e.symm)).trans e,hg,hc.below hb⟩
 ·obtain⟨g,e,hg,hc⟩:=h;exact⟨g,(key 9 (fun e=>hd e.symm)).trans e,hg,hc.below hb⟩
 ·obtain⟨g,c1,c2,e,e2,hc⟩:=h;exact⟨g,c1,c2,(key 20 (fun e=>hd.1 e.symm)).trans e,(key 8 (fun e=>hd.2 e.symm)).trans e2,qc hc hb⟩
 ·obtain⟨g,c1,c2,e,e2,hc⟩:=h;exact⟨g,c1,c2,(key 20 (fun e=>hd.1 e.symm)).trans e,(key 9 (fun e=>hd.2 e.symm)).trans e2,qc hc hb⟩
 ·trivial
theorem zB {B g:Nat}{W W':World}{v:Value}{z:List Int}{o:Array Value}(h:OwnB B W v z)(hg:W.heap[g]? =some (.cells o 54 (0,0)))(hS:Spare (fun k=>k≠g) W W'):OwnB B W' v z:=by
 refine⟨h.1,?_⟩;rcases h.2 with h2|⟨g',cap,cur,rfl,h1,h2,h3⟩
 ·exact .inl h2
 ·refine .inr ⟨g',cap,cur,rfl,h1,?_,h3⟩;rw[hS.block g' (Ai h2).1 fun e=>by rw[e,hg]at h2;simp only[Option.some.injEq,Obj.cells.injEq]at h2;exact absurd h2.2.1 (by decide)];exact h2
theorem GL.store {t:TreeV}{kz z1 z2 xs ys:List Int}{b1:Nat}{T full v1 slc v2:Value}{E:Int}{x:Tmp→Value}{W:World}{j g:Nat}{c:Array Value}(hg:isCall W g)(hc:c.size=6∧ ∀(i:Nat) (z:Int),c[i]? ≠some (Value.int .u8 z))
  (h15:j=15→ ∀g',x 8= .pointer (some ⟨g',0,none⟩)→g'≠g) (h16:j=16→ ∀g',x 9= .pointer (some ⟨g',0,none⟩)→g'≠g) (h:GL t kz z1 z2 xs ys b1 T full v1 slc v2 E j x W):GL t kz z1 z2 xs ys b1 T full v1 slc v2 E j x (W.setRow g c):=by
 obtain⟨o,ho,hs,hn⟩:=hg;have hS:=Spare.of_but (But.of_setRow W g c);have hgg: ∀(k:Nat) (c':Array Value) (T:TypeId) (fr:Nat×Nat),W.heap[k]? =some (.cells c' T fr)→ ¬(k≠g)→ ∀(i:Nat) (z:Int),c'[i]? ≠some (Value.int .u8 z):=fun k c' T fr hk hne=>by
  have e:k=g:=Decidable.byContradiction hne;rw[e,ho]at hk;simp only[Option.some.injEq,Obj.cells.injEq]at hk;obtain⟨rfl, -⟩:=hk;exact hn
 have hcall: ∀k,isCall W k→isCall (W.setRow g c) k:=fun k hk=>by
  by_cases e:k=g
  ·rw[e];exact⟨c,setRow_heap W g o c _ _ ho,hc⟩
  ·obtain⟨o',h1,h2⟩:=hk;exact⟨o',(setRow_other W g k c e).trans h1,h2⟩
 rcases j with _|_|_|_|_|_|_|_|_|_|_|_|_|_|_|_|_|_|j
 all_goals try exact h
 ·obtain⟨a1,c1,a2,c2,a3,c3,e,k1,k2,k3⟩:=(h:OwnTree t kz z1 z2 b1 W (x 22));exact⟨a1,c1,a2,c2,a3,c3,e,zB k1 ho hS,zB k2 ho hS,zB k3 ho hS⟩
 ·exact zB (h:OwnB b1 W (x 28) ys) ho hS
 ·obtain⟨c1,c2,r,i,e,hP⟩:=h;exact⟨c1,c2,r,i,e,hP.spare hS hgg⟩
 ·obtain⟨c1,c2,r,i,e,hP⟩:=h;exact⟨c1,c2,r,i,e,hP.spare hS hgg⟩
 ·obtain⟨g',e,hb,hk⟩:=h;exact⟨g',e,hb,hcall g' hk⟩
 ·obtain⟨g',e,hb,hk⟩:=h;exact⟨g',e,hb,hcall g' hk⟩
 ·obtain⟨g',c1,c2,e,e2,hk⟩:=h;exact⟨g',c1,c2,e,e2,(setRow_other W g g' c (h15 rfl g' e2)).trans hk⟩
 ·obtain⟨g',c1,c2,e,e2,hk⟩:=h;exact⟨g',c1,c2,e,e2,(setRow_other W g g' c (h16 rfl g' e2)).trans hk⟩
theorem qdY {W:World}{c:Array Value}{s:CallS}(h:CallM W (.agg c) s): ∀(i:Nat) (z:Int),c[i]? ≠some (Value.int .u8 z):=by
 obtain⟨b,q,d,e,h1,h2,h3⟩:=h;obtain⟨_,_,rfl, -⟩:=h1.slice;obtain⟨_,_,rfl, -⟩:=h2.slice;obtain⟨_,_,rfl, -⟩:=h3.slice;simp only[Value.agg.injEq]at e;rw[e];intro i z hz;unfold qt at hz;rcases i with _|_|_|_|_|_|i<;>simp at hz
theorem PartSays.no {t:TreeV}{kz z1 z2 xs ys:List Int}{c1 c2:Array Value}{r i:Int}{W:World}(h:PartSays t kz z1 z2 xs ys c1 c2 r i W):(∀(i:Nat) (z:Int),c1[i]? ≠some (Value.int .u8 z))∧ ∀(i:Nat) (z:Int),c2[i]? ≠some (Value.int .u8 z):=by
 rcases h.2.2 with⟨-,rfl,rfl, -⟩|⟨-,a,b,row,at_, -,h3,h4, -⟩
 ·exact⟨yR,yR⟩
 ·exact⟨qdY h3,qdY h4⟩
theorem DL.keep {D:Nat→Bool}{i:Nat}{x:Tmp→Value}{W W':World}{d:Option Tmp}{v:Value}(h:DL D x W)(hi:i≠13∧i≠14)(hd: ∀d',d=some d'→d'≠8∧d'≠9):DL (setD D i) (yJ x d v) W':=by
 have k8:yJ x d v 8=x 8:=by
  cases d with
  | none=>rfl
  | some d'=>unfold yJ upd;simp[Ne.symm (hd d' rfl).1]
 have k9:yJ x d v 9=x 9:=by
  cases d with
  | none=>rfl
  | some d'=>unfold yJ upd;simp[Ne.symm (hd d' rfl).2]
 intro h1 h2 g g' e1 e2;rw[k8]at e1;rw[k9]at e2;unfold setD at h1 h2;exact h (by simpa [Ne.symm hi.1] using h1) (by simpa [Ne.symm hi.2] using h2) g g' e1 e2
theorem qaA (t:TreeV)(kz z1 z2 xs ys:List Int)(v1 v2:Value)(w:World)(hl:0≤t.l∧t.l≤4294967295)(h1:Hold w (.slice t.ka t.kl t.kc) kz)(h2:Hold w (.slice t.sa t.sl t.sc) z1)(h3:Hold w (.slice t.pa t.pl t.pc) z2)(hx:Hold w v1 xs)(hy:Hold w v2 ys)(hxn:xs.length≤4194304)(hyn:ys.length≤4194304)(hk:t.kl≤70368744177664)(hs:t.sl≤70368744177664)(hp:t.pl≤70368744177664):
  Calls Tryz.prog 4 #[t.val,v1,v2] w (qh4 w):=by
 obtain⟨b0,hb0⟩:=Ex w.heap.size;have HL:=hid hl;have HX:=hid hx;have HYY:=hid hy;have HOWN:=hid (fun(W:World) (hb:Below b0 w W)=>qgJ t kz z1 z2 W (h1.below (hb0▸hb)) (h2.below (hb0▸hb)) (h3.below (hb0▸hb)) hk hs hp);obtain⟨xa,xc,rfl,hxc1,hxc2⟩:=hx.slice;obtain⟨ya,yc,rfl,hyc1,hyc2⟩:=hy.slice;have HRT:=hid (fun(W:World) (hb:Below b0 w W)=>qbO t kz z1 z2 xs ys xa ya xc yc W hl (h1.below (hb0▸hb)) (h2.below (hb0▸hb)) (h3.below (hb0▸hb)) (hx.below (hb0▸hb)) (hy.below (hb0▸hb)) hxn hyn);have HRD:=hid (fun(W:World) (hb:Below b0 w W)=>qa7 t kz z1 z2 xs ys xa ya xc yc W hl (h1.below (hb0▸hb)) (h2.below (hb0▸hb)) (h3.below (hb0▸hb)) (hx.below (hb0▸hb)) (hy.below (hb0▸hb)) hxn hyn);clear hl h1 h2 h3 hx hy hk hs hp;unfold TreeV.val at*;go_enter Tryz.func4,Tryz.ntmps4
 go_upto_region 1 with(fail)
 refine qj ?_;intro wA hwA;have hrA:wA.heap[b0]? =some (.cells #[.int .i64 t.k,.int .i64 t.d,.int .i64 t.f,.int .i64 t.p,.int .u32 t.l,.int .i64 t.i,.slice t.ka t.kl t.kc,.slice t.sa t.sl t.sc,.slice t.pa t.pl t.pc] 26 (0,0)):=by rw[hwA];exact qM hb0
 have hbA:Below b0 w wA:=by rw[hwA,←hb0];exact Br.alloc Nl _
 have hsA:b0<wA.heap.size:=(Ai hrA).1;clear hwA;go_wp2_with fail
 refine(qbY xs _ wA (HX.out.below (hb0▸hbA)) (by omega)).mono ?_;rintro e w1 ⟨u,rfl,hu,hb1⟩;have hul:(xs++Zj 70).length=xs.length+70:=by rw[List.length_append,qcw]
 obtain⟨fa,fc,rfl,hfc1,hfc2⟩:=hu.hold.slice;obtain⟨fg,off,hfa⟩:=jk hu.hold (fun e=>by have:=congrArg List.length e;rw[hul]at this;simp at this);obtain⟨rfl,rfl⟩:fa=some ⟨fg,0,none⟩∧off=0:=by
  rcases hu.2 with⟨e, -⟩|⟨g,cap,cur,e, -⟩
  ·have:=congrArg List.length e;rw[hul]at this;simp at this
  ·simp only[Value.slice.injEq]at e;rw[hfa]at e;have e1:=e.1;simp only[Option.some.injEq,Addr.mk.injEq,and_true]at e1;obtain⟨rfl,rfl⟩:=e1;exact⟨hfa,rfl⟩
 clear hfa;obtain⟨fn,hfn⟩:=Ex ((xs++Zj 70).length);rw[hfn]at hu hfc1 hul⊢;have HB1:=hid (hbA.trans (hb1.mono (show b0≤wA.heap.size by omega)));have hrT1:=qc hrA hb1;have hs1:b0≤w1.heap.size:=by have:=hb1.size;omega
 have HFL:=hid (fun(W:World) (hb:Below w1.heap.size w1 W)=>hu.hold.below hb);have HUL:=hid hul;have HFC:=hid (show xs.length≤fc∧(fc=0)=False from⟨by omega,by simp;omega⟩);clear hu hb1 hrA hbA hfn hul;have HFULL1:=hid (show Hold w1 (.slice (some ⟨fg,0,none⟩) xs.length fc) xs by
  have:=JY (k:=xs.length) (HFL.out w1 Br) (by simp)
  rwa[List.take_left]at this)
 go_wp2_with fail
 obtain⟨b1,hb1e⟩:=Ex w1.heap.size;obtain⟨E,hE⟩:=Ex (t.clashE kz z1 z2 xs ys);refine qaK (ds:=[21,22,23,24,25,26,27,28,29,20,30,31,32,8,9,10]) (R:=fun W=>Below b1 w1 W) (Good:=GL t kz z1 z2 xs ys b1 (.agg #[.int .i64 t.k,.int .i64 t.d,.int .i64 t.f,.int .i64 t.p,.int .u32 t.l,.int .i64 t.i,.slice t.ka t.kl t.kc,.slice t.sa t.sl t.sc,.slice t.pa t.pl t.pc]) (.slice (some ⟨fg,0,none⟩) fn fc) (.slice xa xs.length xc) (.slice (some ⟨fg,0,none⟩) xs.length fc) (.slice ya ys.length yc) E) (Rel:=DL) rfl rfl rfl (by decide) (by kernel_rfl) (by kernel_rfl) ?_ ?_ ?_ ?_
 ·exact⟨rfl,rfl,rfl,Nat.le_refl _,fun _ _=>rfl⟩
 ·intro D hD h13;rw[hD 13 (by simp)]at h13
  cases h13
 ·intro i o ho D A x W hL hR hRel hDi hC hall hdep K hK;rcases i with _|_|_|_|_|_|_|_|_|_|_|_|_|_|_|_|_|_|i
  ·obtain rfl:=Option.some.inj ho;have a3:=hL.2 3 (by decide);conv at a3=>rhs;whnf
   clear hdep hL;exact wp_load_row 26 _ rfl b0 a3 _ _ _ _ (qc hrT1 (by rw[hb1e];exact hR)) Tryz.underlying26 rfl (by kernel_rfl) (hK _ _ hR (hRel.keep (by decide) (by rintro d' h;cases h;decide)) (fun j hj hD h=>h.grow Br (by rcases j with _|_|_|_|_|_|_|_|_|_|_|_|_|_|_|_|_|_|j<;>first|rfl|exact absurd rfl hj)) rfl)
  ·obtain rfl:=Option.some.inj ho;have gg0:A.tmps.getD 21 undef= .agg #[.int .i64 t.k,.int .i64 t.d,.int .i64 t.f,.int .i64 t.p,.int .u32 t.l,.int .i64 t.i,.slice t.ka t.kl t.kc,.slice t.sa t.sl t.sc,.slice t.pa t.pl t.pc]:=(hL.1 21 (by decide)).trans (hdep ⟨0,.data⟩ (by simp) rfl (by simp));clear hdep hL;go_simp
   refine(HOWN.out W (HB1.out.trans (hR.mono (by omega)))).mono ?_;rintro e w5 ⟨u,rfl,ho',hb5⟩;have hsz:=hR.size;refine hK _ _ (hR.trans (hb5.mono (by omega))) (hRel.keep (by decide) (by rintro d' h;cases h;decide)) (fun j hj hD h=>h.grow hb5 (by rcases j with _|_|_|_|_|_|_|_|_|_|_|_|_|_|_|_|_|_|j<;>first|rfl|exact absurd rfl hj)) ?_;obtain⟨a1,c1,a2,c2,a3,c3,e,k1,k2,k3⟩:=ho';exact⟨a1,c1,a2,c2,a3,c3,e,k1.le (by omega),k2.le (by omega),k3.le (by omega)⟩
  ·obtain rfl:=Option.some.inj ho;have a7:=hL.2 7 (by decide);conv at a7=>rhs;whnf
   clear hdep hL;go_simp
   exact hK _ _ hR (hRel.keep (by decide) (by rintro d' h;cases h;decide)) (fun j hj hD h=>h.grow Br (by rcases j with _|_|_|_|_|_|_|_|_|_|_|_|_|_|_|_|_|_|j<;>first|rfl|exact absurd rfl hj)) rfl
  ·obtain rfl:=Option.some.inj ho;have a1:=hL.2 1 (by decide);conv at a1=>rhs;whnf
   clear hdep hL;go_simp
   exact hK _ _ hR (hRel.keep (by decide) (by rintro d' h;cases h;decide)) (fun j hj hD h=>h.grow Br (by rcases j with _|_|_|_|_|_|_|_|_|_|_|_|_|_|_|_|_|_|j<;>first|rfl|exact absurd rfl hj)) rfl
  ·obtain rfl:=Option.some.inj ho;have gg0:A.tmps.getD 24 undef= .slice xa xs.length xc:=(hL.1 24 (by decide)).trans (hdep ⟨3,.data⟩ (by simp) rfl (by simp));clear hdep hL;go_simp
   exact hK _ _ hR (hRel.keep (by decide) (by rintro d' h;cases h;decide)) (fun j hj hD h=>h.grow Br (by rcases j with _|_|_|_|_|_|_|_|_|_|_|_|_|_|_|_|_|_|j<;>first|rfl|exact absurd rfl hj)) rfl
  ·obtain rfl:=Option.some.inj ho;have gg0:A.tmps.getD 23 undef= .slice (some ⟨fg,0,none⟩) fn fc:=(hL.1 23 (by decide)).trans (hdep ⟨2,.data⟩ (by simp) rfl (by simp));have gg1:A.tmps.getD 25 undef= .int .i64 (xs.length:Nat):=(hL.1 25 (by decide)).trans (hdep ⟨4,.data⟩ (by simp) rfl (by simp));have y5:=HFC.out.1;have y6:=HFC.out.2;clear hdep hL;go_simp
   exact hK _ _ hR (hRel.keep (by decide) (by rintro d' h;cases h;decide)) (fun j hj hD h=>h.grow Br (by rcases j with _|_|_|_|_|_|_|_|_|_|_|_|_|_|_|_|_|_|j<;>first|rfl|exact absurd rfl hj)) rfl
  ·obtain rfl:=Option.some.inj ho;have a2:=hL.2 2 (by decide);conv at a2=>rhs;whnf
   clear hdep hL;go_simp
   exact hK _ _ hR (hRel.keep (by decide) (by rintro d' h;cases h;decide)) (fun j hj hD h=>h.grow Br (by rcases j with _|_|_|_|_|_|_|_|_|_|_|_|_|_|_|_|_|_|j<;>first|rfl|exact absurd rfl hj)) rfl
  ·obtain rfl:=Option.some.inj ho;have gg0:A.tmps.getD 27 undef= .slice ya ys.length yc:=(hL.1 27 (by decide)).trans (hdep ⟨6,.data⟩ (by simp) rfl (by simp));clear hdep hL;go_simp
   have hsz:=hR.size;refine(Yf ys _ W (HYY.out.below (hb0▸(HB1.out.trans (hR.mono (by omega))))) (by omega)).mono ?_;rintro e w5 ⟨u,rfl,ho',hb5⟩;exact hK _ _ (hR.trans (hb5.mono (by omega))) (hRel.keep (by decide) (by rintro d' h;cases h;decide)) (fun j hj hD h=>h.grow hb5 (by rcases j with _|_|_|_|_|_|_|_|_|_|_|_|_|_|_|_|_|_|j<;>first|rfl|exact absurd rfl hj)) (ho'.le (by omega))
  ·obtain rfl:=Option.some.inj ho;have gg0:A.tmps.getD 26 undef= .slice (some ⟨fg,0,none⟩) xs.length fc:=(hL.1 26 (by decide)).trans (hdep ⟨5,.data⟩ (by simp) rfl (by simp));have g22:OwnTree t kz z1 z2 b1 W (x 22):=hdep ⟨1,.data⟩ (by simp) rfl (by simp);have g28:OwnB b1 W (x 28) ys:=hdep ⟨7,.data⟩ (by simp) rfl (by simp);have a22:A.tmps.getD 22 undef=x 22:=hL.1 22 (by decide);have a28:A.tmps.getD 28 undef=x 28:=hL.1 28 (by decide);clear hdep hL;obtain⟨a1,c1,a2,c2,a3,c3,e,k1,k2,k3⟩:=g22;obtain⟨ua,uc,eu, -, -⟩:=g28.hold.slice;rw[eu]at g28 a28;rw[e]at a22;have hsz:=hR.size;have hq:=qda (t.sw a1 c1 a2 c2 a3 c3) kz z1 z2 xs ys (some ⟨fg,0,none⟩) ua fc uc W HL.out k1.hold k2.hold k3.hold (HFULL1.out.below (by rw[hb1e];exact hR)) g28.hold hxn hyn;rw[YY,hE]at hq;go_simp
   refine hq.mono ?_;rintro e w5 ⟨⟨p,q,r,i',rfl,hP⟩,hb5⟩;exact hK _ _ (hR.trans (hb5.mono (by omega))) (hRel.keep (by decide) (by rintro d' h;cases h;decide)) (fun j hj hD h=>h.grow hb5 (by rcases j with _|_|_|_|_|_|_|_|_|_|_|_|_|_|_|_|_|_|j<;>first|rfl|exact absurd rfl hj)) ⟨p,q,r,i',rfl,hP.sw⟩
  ·obtain rfl:=Option.some.inj ho;have g29: ∃c1 c2 r i,x 29= .tuple #[.agg c1,.agg c2,.int .i64 E]∧PartSays t kz z1 z2 xs ys c1 c2 r i W:=hdep ⟨8,.data⟩ (by simp) rfl (by simp);have a29:A.tmps.getD 29 undef=x 29:=hL.1 29 (by decide);clear hdep hL;obtain⟨c1,c2,r,i',e,hP⟩:=g29;rw[e]at a29;go_simp
   exact hK _ _ hR (hRel.keep (by decide) (by rintro d' h;cases h;decide)) (fun j hj hD h=>h.grow Br (by rcases j with _|_|_|_|_|_|_|_|_|_|_|_|_|_|_|_|_|_|j<;>first|rfl|exact absurd rfl hj|(have h9:=hC 10 _ rfl hD ⟨9,.data⟩ (by simp) rfl;rw[hDi]at h9;cases h9)|(have h9:=hC 11 _ rfl hD ⟨9,.data⟩ (by simp) rfl;rw[hDi]at h9;cases h9)|(have h9:=hC 15 _ rfl hD ⟨9,.phase⟩ (by simp) rfl;rw[hDi]at h9;cases h9)|(have h9:=hC 16 _ rfl hD ⟨9,.phase⟩ (by simp) rfl;rw[hDi]at h9;cases h9))) ⟨c1,c2,r,i',rfl,hP⟩
  ·obtain rfl:=Option.some.inj ho;have g20: ∃c1 c2 r i,x 20= .tuple #[.agg c1,.agg c2,.int .i64 E]∧PartSays t kz z1 z2 xs ys c1 c2 r i W:=hdep ⟨9,.data⟩ (by simp) rfl (by simp);have a20:A.tmps.getD 20 undef=x 20:=hL.1 20 (by decide);clear hdep hL;obtain⟨c1,c2,r,i',e,hP⟩:=g20;rw[e]at a20;go_simp
   exact hK _ _ hR (hRel.keep (by decide) (by rintro d' h;cases h;decide)) (fun j hj hD h=>h.grow Br (by rcases j with _|_|_|_|_|_|_|_|_|_|_|_|_|_|_|_|_|_|j<;>first|rfl|exact absurd rfl hj)) ⟨c1,c2,e,rfl⟩
  ·obtain rfl:=Option.some.inj ho;have g20: ∃c1 c2 r i,x 20= .tuple #[.agg c1,.agg c2,.int .i64 E]∧PartSays t kz z1 z2 xs ys c1 c2 r i W:=hdep ⟨9,.data⟩ (by simp) rfl (by simp);have a20:A.tmps.getD 20 undef=x 20:=hL.1 20 (by decide);clear hdep hL;obtain⟨c1,c2,r,i',e,hP⟩:=g20;rw[e]at a20;go_simp
   exact hK _ _ hR (hRel.keep (by decide) (by rintro d' h;cases h;decide)) (fun j hj hD h=>h.grow Br (by rcases j with _|_|_|_|_|_|_|_|_|_|_|_|_|_|_|_|_|_|j<;>first|rfl|exact absurd rfl hj)) ⟨c1,c2,e,rfl⟩
  ·obtain rfl:=Option.some.inj ho;have g20: ∃c1 c2 r i,x 20= .tuple #[.agg c1,.agg c2,.int .i64 E]∧PartSays t kz z1 z2 xs ys c1 c2 r i W:=hdep ⟨9,.data⟩ (by simp) rfl (by simp);have a20:A.tmps.getD 20 undef=x 20:=hL.1 20 (by decide);clear hdep hL;obtain⟨c1,c2,r,i',e,hP⟩:=g20;rw[e]at a20;go_simp
   exact hK _ _ hR (hRel.keep (by decide) (by rintro d' h;cases h;decide)) (fun j hj hD h=>h.grow Br (by rcases j with _|_|_|_|_|_|_|_|_|_|_|_|_|_|_|_|_|_|j<;>first|rfl|exact absurd rfl hj)) rfl
  ·obtain rfl:=Option.some.inj ho;clear hdep hL;go_simp
   have hsz:=hR.size;refine hK _ _ (hR.trans (((Below.refl W.heap.size W).alloc Nl _).mono (by omega))) ?_ (fun j hj hD h=>h.grow (Br.alloc Nl _) (by rcases j with _|_|_|_|_|_|_|_|_|_|_|_|_|_|_|_|_|_|j<;>first|rfl|exact absurd rfl hj|(have h9:=hC 15 _ rfl hD ⟨13,.data⟩ (by simp) rfl;rw[hDi]at h9;cases h9))) ⟨W.heap.size,rfl,by omega,zeroC,Wn _ _,rfl,yR⟩;intro q1 q2 g g' e1 e2;unfold setD at q1 q2;have hD:=hall 14 (by simp) (by simpa using q2);obtain⟨g0,e0, -,hc⟩:=hD;have hlt:g0<W.heap.size:=by obtain⟨o',k1, -⟩:=hc;exact(Ai k1).1
   simp only[yJ,upd]at e1 e2;simp at e1 e2
   rw[e0]at e2;simp at e2
   omega
  ·obtain rfl:=Option.some.inj ho;clear hdep hL;go_simp
   have hsz:=hR.size;refine hK _ _ (hR.trans (((Below.refl W.heap.size W).alloc Nl _).mono (by omega))) ?_ (fun j hj hD h=>h.grow (Br.alloc Nl _) (by rcases j with _|_|_|_|_|_|_|_|_|_|_|_|_|_|_|_|_|_|j<;>first|rfl|exact absurd rfl hj|(have h9:=hC 16 _ rfl hD ⟨14,.data⟩ (by simp) rfl;rw[hDi]at h9;cases h9))) ⟨W.heap.size,rfl,by omega,zeroC,Wn _ _,rfl,yR⟩;intro q1 q2 g g' e1 e2;unfold setD at q1 q2;have hD:=hall 13 (by simp) (by simpa using q1);obtain⟨g0,e0, -,hc⟩:=hD;have hlt:g0<W.heap.size:=by obtain⟨o',k1, -⟩:=hc;exact(Ai k1).1
   simp only[yJ,upd]at e1 e2;simp at e1 e2
   rw[e0]at e1;simp at e1
   omega
  ·obtain rfl:=Option.some.inj ho;have gb: ∃g,x 8= .pointer (some ⟨g,0,none⟩)∧b1≤g∧isCall W g:=hdep ⟨13,.data⟩ (by simp) rfl (by simp);have gc: ∃c1 c2,x 20= .tuple #[.agg c1,.agg c2,.int .i64 E]∧x 30= .agg c1:=hdep ⟨10,.data⟩ (by simp) rfl (by simp);have gp: ∃c1 c2 r i,x 20= .tuple #[.agg c1,.agg c2,.int .i64 E]∧PartSays t kz z1 z2 xs ys c1 c2 r i W:=hdep ⟨9,.phase⟩ (by simp) rfl (by simp);have ab:A.tmps.getD 8 undef=x 8:=hL.1 8 (by decide);have ac:A.tmps.getD 30 undef=x 30:=hL.1 30 (by decide);obtain⟨g,eb,hbg,hcall⟩:=gb;obtain⟨c1,c2,e20,ev⟩:=gc;obtain⟨p,q,r,i',e9,hP⟩:=gp;rw[e9]at e20;simp only[Value.tuple.injEq,Array.mk.injEq,List.cons.injEq,Value.agg.injEq,and_true]at e20;obtain⟨rfl,rfl⟩:=e20;have hcall2:=hcall;obtain⟨o,ho2,hs2,hn2⟩:=hcall2;have hsz:=hR.size;refine wp_store_row 54 _ _ rfl g p (ab.trans eb) (ac.trans ev) 54 o ho2 (by rw[hP.1.1];kernel_rfl) (by rw[hP.1.1,hs2]) hP.1.2 (hK undef _ ?_ ?_ ?_ ?_)
   ·exact hR.trans ((Spare.of_but (But.of_setRow W g p)).below (by omega) fun k hk=>by omega)
   ·exact hRel.keep (by decide) (fun d' h=>by cases h)
   ·intro j hj hD h;exact GL.store hcall ⟨hP.1.1,hP.no.1⟩ (fun e=>absurd e hj) (fun e g' eg=>by subst e;exact fun h=>hRel (hC 16 _ rfl hD ⟨13,.phase⟩ (by simp) rfl) (hC 16 _ rfl hD ⟨14,.data⟩ (by simp) rfl) g g' eb eg h.symm) h
   ·exact⟨g,p,q,e9,eb,setRow_heap W g o p _ _ ho2⟩
  ·obtain rfl:=Option.some.inj ho;have gb: ∃g,x 9= .pointer (some ⟨g,0,none⟩)∧b1≤g∧isCall W g:=hdep ⟨14,.data⟩ (by simp) rfl (by simp);have gc: ∃c1 c2,x 20= .tuple #[.agg c1,.agg c2,.int .i64 E]∧x 31= .agg c2:=hdep ⟨11,.data⟩ (by simp) rfl (by simp);have gp: ∃c1 c2 r i,x 20= .tuple #[.agg c1,.agg c2,.int .i64 E]∧PartSays t kz z1 z2 xs ys c1 c2 r i W:=hdep ⟨9,.phase⟩ (by simp) rfl (by simp);have ab:A.tmps.getD 9 undef=x 9:=hL.1 9 (by decide);have ac:A.tmps.getD 31 undef=x 31:=hL.1 31 (by decide);obtain⟨g,eb,hbg,hcall⟩:=gb;obtain⟨c1,c2,e20,ev⟩:=gc;obtain⟨p,q,r,i',e9,hP⟩:=gp;rw[e9]at e20;simp only[Value.tuple.injEq,Array.mk.injEq,List.cons.injEq,Value.agg.injEq,and_true]at e20;obtain⟨rfl,rfl⟩:=e20;have hcall2:=hcall;obtain⟨o,ho2,hs2,hn2⟩:=hcall2;have hsz:=hR.size;refine wp_store_row 54 _ _ rfl g q (ab.trans eb) (ac.trans ev) 54 o ho2 (by rw[hP.2.1.1];kernel_rfl) (by rw[hP.2.1.1,hs2]) hP.2.1.2 (hK undef _ ?_ ?_ ?_ ?_)
   ·exact hR.trans ((Spare.of_but (But.of_setRow W g q)).below (by omega) fun k hk=>by omega)
   ·exact hRel.keep (by decide) (fun d' h=>by cases h)
   ·intro j hj hD h;exact GL.store hcall ⟨hP.2.1.1,hP.no.2⟩ (fun e g' eg=>by subst e;exact hRel (hC 15 _ rfl hD ⟨13,.data⟩ (by simp) rfl) (hC 15 _ rfl hD ⟨14,.phase⟩ (by simp) rfl) g' g eg eb) (fun e=>absurd e hj) h
   ·exact⟨g,p,q,e9,eb,setRow_heap W g o q _ _ ho2⟩
  ·obtain rfl:=Option.some.inj ho;have g32:A.tmps.getD 32 undef= .int .i64 E:=(hL.1 32 (by decide)).trans (hdep ⟨12,.data⟩ (by simp) rfl (by simp));clear hdep hL;go_simp
   exact hK _ _ hR (hRel.keep (by decide) (by rintro d' h;cases h;decide)) (fun j hj hD h=>h.grow Br (by rcases j with _|_|_|_|_|_|_|_|_|_|_|_|_|_|_|_|_|_|j<;>first|rfl|exact absurd rfl hj)) rfl
  ·cases ho
 ·intro x W hR hG;obtain⟨g8,p,q,e9,e8,hg8⟩:=(hG 15 (by simp): ∃g c1 c2,x 20= .tuple #[.agg c1,.agg c2,.int .i64 E]∧x 8= .pointer (some ⟨g,0,none⟩)∧W.heap[g]? =some (.cells c1 54 (0,0)));obtain⟨g9,p',q',e9',e99,hg9⟩:=(hG 16 (by simp): ∃g c1 c2,x 20= .tuple #[.agg c1,.agg c2,.int .i64 E]∧x 9= .pointer (some ⟨g,0,none⟩)∧W.heap[g]? =some (.cells c2 54 (0,0)));obtain⟨p2,q2,r,i,e2,hP⟩:=(hG 9 (by simp): ∃c1 c2 r i,x 20= .tuple #[.agg c1,.agg c2,.int .i64 E]∧PartSays t kz z1 z2 xs ys c1 c2 r i W);have e10:x 10= .int .i64 E:=hG 17 (by simp);rw[e9]at e9' e2;simp only[Value.tuple.injEq,Array.mk.injEq,List.cons.injEq,Value.agg.injEq,and_true]at e9' e2;obtain⟨rfl,rfl⟩:=e9';obtain⟨rfl,rfl⟩:=e2;clear hG;simp only[lay,Act.put,Ls,e8,e99,e10];clear e9 e8 e99 e10;obtain⟨sa,sb,⟨bv1,kv1,dv1,ep,m1,m2,m3⟩,⟨bv2,kv2,dv2,eq_,n1,n2,n3⟩, -, -⟩:=hP.both hP;simp only[Value.agg.injEq]at ep eq_;subst ep eq_;obtain⟨q1,j1,rfl, -⟩:=m1.slice;obtain⟨q2,j2,rfl, -⟩:=m2.slice;obtain⟨q3,j3,rfl, -⟩:=m3.slice;obtain⟨q4,j4,rfl, -⟩:=n1.slice;obtain⟨q5,j5,rfl, -⟩:=n2.slice;obtain⟨q6,j6,rfl, -⟩:=n3.slice;clear m1 m2 m3 n1 n2 n3;unfold qt at hP hg8 hg9;have HP:=hid hP;have HW:=hid (HB1.out.trans (hR.mono (show b0≤b1 by omega)));have HWX:=hid (show Below w1.heap.size w1 W by rw[hb1e];exact hR);have hrW:=qc hrT1 HWX.out;have hsW:b1≤W.heap.size:=by have:=HWX.out.size;omega
  clear hP hR;generalize x 20=x20;generalize x 21=x21;generalize x 22=x22;generalize x 23=x23;generalize x 24=x24;generalize x 25=x25;generalize x 26=x26;generalize x 27=x27;generalize x 28=x28;generalize x 29=x29;generalize x 30=x30;generalize x 31=x31;generalize x 32=x32;clear x;go_wp2_with ((with_reducible show wpList _ _ _ (Oper.mk _ (Op.load 26 _) _ _ _ _::_) _ _);refine wpList_load_row rfl 26 _ rfl b0 rfl _ _ _ _ hrW Tryz.underlying26 rfl (by kernel_rfl) ?_)
  have hq:=HRT.out W HW.out;rw[hE]at hq;refine hq.mono ?_;rintro e w3 ⟨⟨d1,d2,r3,i3,rfl,hP3⟩,hb3⟩;clear hq;obtain⟨ca,cb,K1,K2,K3,K4⟩:=(HP.out.below hb3).both hP3;have hKK:=And.intro K3 K4;obtain⟨⟨bv3,kv3,dv3,ep,m1,m2,m3⟩,⟨bv4,kv4,dv4,eq_,n1,n2,n3⟩⟩:=hKK;simp only[Value.agg.injEq]at ep eq_;subst ep eq_;obtain⟨q7,j7,rfl, -⟩:=m1.slice;obtain⟨q8,j8,rfl, -⟩:=m2.slice;obtain⟨q9,j9,rfl, -⟩:=m3.slice;obtain⟨q10,j10,rfl, -⟩:=n1.slice;obtain⟨q11,j11,rfl, -⟩:=n2.slice;obtain⟨q12,j12,rfl, -⟩:=n3.slice;clear m1 m2 m3 n1 n2 n3;unfold qt at K3 K4 hP3⊢;have HROW:=hid hP3.row;have HK1:=hid K1;have HK2:=hid K2;have HK3:=hid K3;have HK4:=hid K4;have hg8b:=qc hg8 hb3;have hg9b:=qc hg9 hb3;have hrb:=qc hrW hb3;have hsb:b1≤w3.heap.size:=by have:=hb3.size;omega
  have HB3:=hid (HW.out.trans (hb3.mono (by have:=HW.out.size;omega)));have HX3:=hid (HWX.out.trans (hb3.mono (by have:=HWX.out.size;omega)));clear K1 K2 K3 K4 hP3 hb3 hg8 hg9 hrW;obtain⟨b3,hb3e⟩:=Ex w3.heap.size;go_upto_region 4 with(fail)
  refine qj ?_;intro w4 hw4;have hb4:Below b3 w3 w4:=by rw[hw4,←hb3e];exact(Br.alloc Nl _).alloc (by rw[qw];omega) _
  have hA3:w4.heap[b3]? =some (.cells #[.int .i64 ca.k,.slice q7 ca.bs.length j7,.slice q8 ca.kz.length j8,.bool ca.la,.int .i64 ca.o,.slice q9 ca.ds.length j9] 54 (0,0)):=by
   rw[hw4];exact qc (qM hb3e) (Br.alloc Nl _)
  have hA4:w4.heap[b3+1]? =some (.cells #[.int .i64 cb.k,.slice q10 cb.bs.length j10,.slice q11 cb.kz.length j11,.bool cb.la,.int .i64 cb.o,.slice q12 cb.ds.length j12] 54 (0,0)):=by
   rw[hw4];exact qM (by rw[qw,hb3e])
  have hb4':Below w3.heap.size w3 w4:=by rw[hb3e];exact hb4
  clear hw4;have hg8c:=qc hg8b hb4';have hg9c:=qc hg9b hb4';have hrc:=qc hrb hb4';have hsc:b1≤w4.heap.size:=by have:=hb4'.size;omega
  have HB4:=hid (HB3.out.trans (hb4.mono (by have:=HB3.out.size;omega)));have HX4:=hid (HX3.out.trans (hb4'.mono (by have:=HX3.out.size;omega)));have HQ1:=hid (HK1.out.below hb4');have HQ2:=hid (HK2.out.below hb4');have HQ3:=hid (HK3.out.below hb4');have HQ4:=hid (HK4.out.below hb4');clear hb4 hb4' hg8b hg9b hrb HK1 HK2 HK3 HK4 HB3 HX3;have hq:=J3 ca ca _ _ w4 HQ1.out HQ3.out;rw[qaV]at hq;have HQ:=hid hq;clear hq;have cc8:=(qde hg8c).1;have cc3:=(qde hA3).1;go_wp2_with fail
  refine HQ.out.mono ?_;rintro e w5 ⟨rfl,hb5⟩;clear cc8 cc3 HQ;have hg9d:=qc hg9c hb5;have hA4d:=qc hA4 hb5;have hrd:=qc hrc hb5;have HB5:=hid (HB4.out.trans (hb5.mono (by have:=HB4.out.size;omega)));have HX5:=hid (HX4.out.trans (hb5.mono (by have:=HX4.out.size;omega)));have hq:=J3 cb cb _ _ w5 (HQ2.out.below hb5) (HQ4.out.below hb5);rw[qaV]at hq;have HQ:=hid hq;clear hq hb5 hg9c hA4 hrc hg8c hA3 HB4 HX4 HQ1 HQ2 HQ3 HQ4;have cc9:=(qde hg9d).1;have cc4:=(qde hA4d).1;go_wp2_with fail
  refine HQ.out.mono ?_;rintro e w6 ⟨rfl,hb6⟩;clear cc9 cc4 HQ;have hre:=qc hrd hb6;have HB6:=hid (HB5.out.trans (hb6.mono (by have:=HB5.out.size;omega)));have HX6:=hid (HX5.out.trans (hb6.mono (by have:=HX5.out.size;omega)));clear hb6 hrd hg9d hA4d HB5 HX5;go_wp2_with fail
  refine(qf3 xs _ _ w6 (HFL.out w6 HX6.out) (HX.out.below (hb0▸HB6.out)) (by omega)).mono ?_;rintro e w7 ⟨rfl,hb7⟩;have hr7:=qc hre hb7;have HB7:=hid (HB6.out.trans (hb7.mono (by have:=HB6.out.size;omega)));clear hb7 hre HB6 HX6;go_wp2_with ((with_reducible show wpList _ _ _ (Oper.mk _ (Op.load 26 _) _ _ _ _::_) _ _);refine wpList_load_row rfl 26 _ rfl b0 rfl _ _ _ _ hr7 Tryz.underlying26 rfl (by kernel_rfl) ?_)
  refine(HOWN.out w7 HB7.out).mono ?_;rintro e w8 ⟨u,rfl,ho,hb8⟩;obtain⟨a1,c1,a2,c2,a3,c3,rfl,k1,k2,k3⟩:=ho;have hr8:=qc hr7 hb8;have HB8:=hid (HB7.out.trans (hb8.mono (by have:=HB7.out.size;omega)));have HT8:=hid (And.intro k1 (And.intro k2 k3));clear hb8 hr7 HB7 k1 k2 k3;go_wp2_with fail
  refine(Yf xs _ w8 (HX.out.below (hb0▸HB8.out)) (by omega)).mono ?_;rintro e w9 ⟨u1,rfl,ho1,hb9⟩;obtain⟨ua1,uc1,rfl, -, -⟩:=ho1.hold.slice;have hr9:=qc hr8 hb9;have HB9:=hid (HB8.out.trans (hb9.mono (by have:=HB8.out.size;omega)));have HT9:=hid (And.intro (HT8.out.1.hold.below hb9) (And.intro (HT8.out.2.1.hold.below hb9) (And.intro (HT8.out.2.2.hold.below hb9) ho1.hold)));clear hb9 hr8 HB8 HT8 ho1;go_wp2_with fail
  refine(Yf ys _ w9 (HYY.out.below (hb0▸HB9.out)) (by omega)).mono ?_;rintro e w10 ⟨u2,rfl,ho2,hb10⟩;obtain⟨ua2,uc2,rfl, -, -⟩:=ho2.hold.slice;have hr10:=qc hr9 hb10;have HB10:=hid (HB9.out.trans (hb10.mono (by have:=HB9.out.size;omega)));have hq:=qbU (t.sw a1 c1 a2 c2 a3 c3) kz z1 z2 xs ys ua1 ua2 uc1 uc2 w10 HL.out (HT9.out.1.below hb10) (HT9.out.2.1.below hb10) (HT9.out.2.2.1.below hb10) (HT9.out.2.2.2.below hb10) ho2.hold hxn hyn;rw[YY,hE]at hq;have HQ:=hid hq;clear hb10 hr9 HB9 HT9 ho2 hq;go_wp2_with fail
  refine HQ.out.mono ?_;rintro e w11 ⟨⟨p1,p2,r11,i11,rfl,hP11⟩,hb11⟩;have HR11:=hid hP11.sw.row;have hr11:=qc hr10 hb11;have HB11:=hid (HB10.out.trans (hb11.mono (by have:=HB10.out.size;omega)));clear hb11 hr10 HB10 hP11 HQ;have hq:=HRD.out w11 HB11.out;rw[hE]at hq;have HQ:=hid hq;clear hq;go_wp2_with ((with_reducible show wpList _ _ _ (Oper.mk _ (Op.load 26 _) _ _ _ _::_) _ _);refine wpList_load_row rfl 26 _ rfl b0 rfl _ _ _ _ hr11 Tryz.underlying26 rfl (by kernel_rfl) ?_)
  refine HQ.out.mono ?_;rintro e w12 ⟨⟨r12,i12,rfl,hR12⟩,hb12⟩;obtain⟨rfl,rfl⟩:=RowSays.one HR11.out hR12;have HB12:=hid (HB11.out.trans (hb12.mono (by have:=HB11.out.size;omega)));clear hb12 hr11 HB11 hR12 HQ;go_wp2
  go_ret
  exact⟨rfl,by rw[hb0];exact HB12.out⟩
end Go.Proofs.YtdndeffmlhaipaaGreat
namespace Go.Proofs.YtdndeffmlhaipaaGreat
open Go.ChangeShapes Go.WideShapes Go.ChangeAt Go.RowKit Go.Joins Go.Shelf Go.Maps
open Go.Lib (hid)
theorem qaB {H:Type}(enc:TypeId×Value→H)(W:World)(base:Nat)(args:Array Value)(ds:List (DataW H))(p:List MemPlace)
  (hval: ∀(j:Nat) t v,Tryz.f4.params[j]? =some t→args[j]? =some v→Value.okWide Tryz.prog W .any base t v)
  (hA:DataW.TrodAll enc Tryz.prog W 0 (fun _=>true) true Tryz.f4.params.toList args.toList ds p) (hlt: ∀x∈p,x.block<W.heap.size)
  (hk:Rows.uptoSmall H ds=true):
  Calls Tryz.prog 4 args W (qh4 W):=by
 rw[Tryz.params4]at hA hval;obtain⟨v0,v1,v2,d0,d1,d2,p0,p1,p2,rfl,rfl,rfl,h0,h1,h2⟩:=trodAll_three hA;have hb:Rows.uptoBulk d0+(Rows.uptoBulk d1+(Rows.uptoBulk d2+0))≤1048576:=of_decide_eq_true hk;obtain⟨t,kz,z1,z2,rfl,hl,ht,b1,b2,b3⟩:=qeN (hval 0 26 v0 rfl rfl) h0 (fun x hx=>hlt x (by simp[hx]));obtain⟨xs,hxs,mxs⟩:=qal (hval 1 24 v1 rfl rfl) h1 (fun x hx=>hlt x (by simp[hx]));obtain⟨ys,hys,mys⟩:=qal (hval 2 24 v2 rfl rfl) h2 (fun x hx=>hlt x (by simp[hx]));exact qaA t kz z1 z2 xs ys v1 v2 W hl ht.k ht.s ht.p hxs hys (by omega) (by omega) (by have:=Yr ht.k;omega) (by have:=Yr ht.s;omega) (by have:=Yr ht.p;omega)
theorem JC (os:Os)(started:os.Started)(H:Type)(enc:TypeId×Value→H)(F0:Stop.Interp):
  ReturnsInHanded {} Tryz.checked os 4 .any ((Rows.OpenSpec.upto Rows.clashTreesSpec).pre6 enc Tryz.prog Tryz.f4 Rows.clashTreesUptoRow.domain false) (((Rows.OpenSpec.upto Rows.clashTreesSpec).at F0).post enc Tryz.prog Tryz.f4 false true false false):=by
 refine returnsInHanded_of_cond_sized (C:=Tryz.checked) (s:=Rows.OpenSpec.upto Rows.clashTreesSpec) (k:=Rows.uptoSmall) rfl own started (by kernel_rfl) Tryz.func4
  (OpenSpec.witness (enc:=enc) (C:=Tryz.checked) (s:=Rows.OpenSpec.upto Rows.clashTreesSpec) (k:=Rows.uptoSmall) rfl false ⟨#[],#[.agg #[.int .i64 0,.int .i64 0,.int .i64 0,.int .i64 0,.int .u32 0,.int .i64 0,.slice none 0 0,.slice none 0 0,.slice none 0 0],.slice none 0 0,.slice none 0 0],[]⟩ 40 (by kernel_rfl) (by kernel_rfl) (by kernel_rfl)
   (x:=([.agg [.lit (.int .i64 0),.lit (.int .i64 0),.lit (.int .i64 0),.lit (.int .i64 0),.lit (.int .u32 0),.lit (.int .i64 0),.nil,.nil,.nil],.nil,.nil],[],[])) (by kernel_rfl) (by kernel_rfl) (by kernel_rfl)) ?_
 intro W base args ds gs before hval0 hW hcnd hk hz _;have hW':=hW;obtain⟨p,q,hA0,hV,rfl,hfz,hnd⟩:=hW;have hA:DataW.TrodAll enc Tryz.prog W 0 (fun _=>true) true Tryz.f4.params.toList args.toList ds p:=hA0;obtain⟨rfl,rfl⟩:=trodVars_none hV;have hk':Rows.uptoSmall H ds=true:=by rw[←List.append_nil ds];exact hk
 refine(qaB enc W base args ds p hval0 hA (fun x hx=>hW'.lt x (by simpa using hx)) hk').mono fun e W' h=>⟨_,h.1,?_⟩
 refine qbR (s:=(Rows.OpenSpec.upto Rows.clashTreesSpec).at F0) qhL _ rfl Tryz.underlying4 (by decide+kernel) rfl hW' ?_ h.2;have hA':=hA;rw[Tryz.params4]at hA';obtain⟨v0,v1,v2,d0,d1,d2,p0,p1,p2,rfl,rfl,_⟩:=trodAll_three hA';rfl
theorem clashTrees_holds:Rows.ClashTreesUptoSaid:=
 OpenClaim.holds_of_cond 4 Tryz.f4 rfl rfl rfl rfl rfl rfl rfl ⟨rfl,rfl,rfl,rfl,rfl⟩ rfl rfl rfl rfl rfl (by kernel_rfl) Tryz.func4 (by kernel_rfl)
  (of_decide_eq_true (by kernel_rfl)) (by unfold Func.isWrapper;first|(rw[if_pos (by decide+kernel)];kernel_rfl)|(rw[if_neg (by decide+kernel)];exact⟨rfl,rfl⟩))
  (fun os started H enc _ F0=>by rw[OpenClaim.pre_of_none' rfl];exact JC os started H enc F0)
#print axioms clashTrees_holds
end Go.Proofs.YtdndeffmlhaipaaGreat
