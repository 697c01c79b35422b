/- Lemmas. No condition. -/
import Derived.Test.YtahenngmaoellaaGreatO44
import Derived.Test.YtahenngmaoellaaGreatO45
set_option linter.all false
set_option maxRecDepth 100000
set_option maxHeartbeats 0
namespace Go.Proofs.YtahenngmaoellaaGreat
open Go.ChangeShapes Go.WideShapes Go.ChangeAt Go.RowKit Go.Joins Go.Shelf Go.Maps
open Go.Lib (hid)
variable{kz z1 z2:List Int}
attribute [local go_sem] Oper.semAt_some
theorem TreeH.below {w w':World}{t:TreeV}(h:TreeH w t kz z1 z2)(o:Below w.heap.size w w'):TreeH w' t kz z1 z2:=⟨h.k.below o,h.s.below o,h.p.below o⟩
def TreeV.fitsQ (t:TreeV)(total leaf:Nat)(ss:List Qd)(piece:List Int):Prop:=(piece.length:Int)=((qu t total leaf 0).to_:Int) - ((qu t total leaf 0).frm:Int)/\zd t.i ((t.rowsOf total).length - 1) (chI t total leaf) (afI t total leaf) ss
open Classical in
noncomputable def TreeV.rootE (t:TreeV)(total leaf:Nat)(ss:List Qd)(piece:List Int):Int:=
 if t.spotE total 0 leaf≠0 then t.spotE total 0 leaf else if t.fitsQ total leaf ss piece then 0 else 4
open Classical in
noncomputable def TreeV.rootD (t:TreeV)(kz z1 z2:List Int)(total leaf:Nat)(ss:List Qd)(piece:List Int):List Int:=
 if t.spotE total 0 leaf=0/\t.fitsQ total leaf ss piece then t.pathR kz z1 z2 total leaf ss piece ((t.rowsOf total).length - 1) else []
noncomputable def TreeV.checkE (t:TreeV)(kz z1 z2:List Int)(total leaf:Nat)(ss:List Qd)(piece root:List Int):Int:=
 if t.rootE total leaf ss piece≠0 then t.rootE total leaf ss piece else if t.rootD kz z1 z2 total leaf ss piece=root then 0 else 110
theorem qe4 (b:Nat)(w:World):OwnB b w (.slice none 0 0) []:=⟨(fun a o=>by cases o),.inl ⟨rfl,rfl⟩⟩
theorem Zq {t:TreeV}{total leaf:Nat}{ss:List Qd}{piece:List Int}{b:Nat}{w:World}{v:Value}{e:Int}(h:Zi t kz z1 z2 total leaf ss piece b w v e):e=t.rootE total leaf ss piece/\OwnB b w v (t.rootD kz z1 z2 total leaf ss piece):=by
 unfold TreeV.rootE TreeV.rootD TreeV.fitsQ;rcases h with⟨o,rfl,rfl⟩|⟨o,q,rfl,rfl⟩|⟨o,q,rfl,r⟩
 ·rw[if_pos o,if_neg (fun h=>o h.1)];exact⟨rfl,qe4 _ _⟩
 ·rw[if_neg (by simp[o]),if_neg q,if_neg (fun h=>q h.2)];exact⟨rfl,qe4 _ _⟩
 ·rw[if_neg (by simp[o]),if_pos q,if_pos ⟨o,q⟩];exact⟨rfl,r⟩
theorem qiH (t:TreeV)(kz z1 z2 piece:List Int)(total leaf:Nat)(S:(total:Int)<=18446744073709551615)(q:(leaf:Int)<=18446744073709551615)(I:0<=t.l/\t.l<=4294967295)(u G:Value)(ss:List Qd)(w:World)(h:TreeH w t kz z1 z2)(X:StepsAt w u ss)(o:QX 1048576 ss)(V:Hold w G piece)(U:piece.length<=1048576):
  Calls Tryz.prog 55 #[t.val,.agg #[.int .u64 total,.int .u64 leaf,u],G] w fun r w'=> ∃v,r= .returned (.tuple #[v,.int .i64 (t.rootE total leaf ss piece)])/\OwnB w.heap.size w' v (t.rootD kz z1 z2 total leaf ss piece)/\Below w.heap.size w w':=by
 by_cases D:t.spotE total 0 leaf=0
 ·have Y:t.validE=0:=(YB I S D).2.2.2.2;refine(qjP t kz z1 z2 piece total leaf S q D u G ss w ⟨Y,I,h.k,h.s,h.p⟩ X o V U).mono ?_;rintro r w' ⟨v,e,rfl,O,J⟩
  obtain⟨rfl,o⟩:=Zq O;exact⟨v,rfl,o,J⟩
 ·refine(qiG t I total leaf S D u G w).mono ?_;rintro r w' ⟨rfl,J⟩
  obtain⟨e,o⟩:=Zq (kz:=kz) (z1:=z1) (z2:=z2) (ss:=ss) (piece:=piece) (b:=w.heap.size) (w:=w') (.inl ⟨D,rfl,rfl⟩);exact⟨_,by rw[<-e],o,J⟩
theorem qeO (t:TreeV)(kz z1 z2 piece:List Int)(total leaf:Nat)(S:(total:Int)<=18446744073709551615)(q:(leaf:Int)<=18446744073709551615)(I:0<=t.l/\t.l<=4294967295)(u G:Value)(ss:List Qd)(w:World)(h:TreeH w t kz z1 z2)(X:StepsAt w u ss)(o:QX 1048576 ss)(V:Hold w G piece)(U:piece.length<=1048576):
  Calls Tryz.prog 59 #[t.val,.agg #[.int .u64 total,.int .u64 leaf,u],G] w fun r w'=> ∃v,r= .returned (.tuple #[v,.int .i64 (t.rootE total leaf ss piece)])/\OwnB w.heap.size w' v (t.rootD kz z1 z2 total leaf ss piece)/\Below w.heap.size w w':=by
 by_cases D:t.spotE total 0 leaf=0
 ·have Y:t.validE=0:=(YB I S D).2.2.2.2;refine(qgb t kz z1 z2 piece total leaf S q D u G ss w ⟨Y,I,h.k,h.s,h.p⟩ X o V U).mono ?_;rintro r w' ⟨v,e,rfl,O,J⟩
  obtain⟨rfl,o⟩:=Zq O;exact⟨v,rfl,o,J⟩
 ·refine(qeN t I total leaf S D u G w).mono ?_;rintro r w' ⟨rfl,J⟩
  obtain⟨e,o⟩:=Zq (kz:=kz) (z1:=z1) (z2:=z2) (ss:=ss) (piece:=piece) (b:=w.heap.size) (w:=w') (.inl ⟨D,rfl,rfl⟩);exact⟨_,by rw[<-e],o,J⟩
theorem qh9 (t:TreeV)(kz z1 z2 piece o:List Int)(total leaf:Nat)(ht:(total:Int)<=18446744073709551615)(ab:(leaf:Int)<=18446744073709551615)(hl:0<=t.l/\t.l<=4294967295)(u pv rv:Value)(ss:List Qd)(w:World)(h:TreeH w t kz z1 z2)(hs:StepsAt w u ss)(ho:QX 1048576 ss)(hp:Hold w pv piece)(ah:piece.length<=1048576)(hr:Hold w rv o):
  Calls Tryz.prog 58 #[t.val,.agg #[.int .u64 total,.int .u64 leaf,u],pv,rv] w fun r w'=>r= .returned (.int .i64 (t.checkE kz z1 z2 total leaf ss piece o))/\Below w.heap.size w w':=by
 obtain⟨O,q⟩:=Ex w.heap.size;have ac:=hid (fun(W:World) (hb:Below O w W)=>qiH t kz z1 z2 piece total leaf ht ab hl u pv ss W (h.below (q▸hb)) (hs.below (q▸hb)) ho (hp.below (q▸hb)) ah);have ag:=hid hr;obtain⟨ra,rc,rfl, -, -⟩:=id hr.slice;obtain⟨pa,pc,rfl, -, -⟩:=id hp.slice;obtain⟨E,J⟩:=Ex (t.rootE total leaf ss piece);obtain⟨D,hD⟩:=Ex (t.rootD kz z1 z2 total leaf ss piece);obtain⟨C,hC⟩:=Ex (t.checkE kz z1 z2 total leaf ss piece o);have ad:C=if E≠0 then E else if D=o then 0 else 110:=by rw[<-hC];unfold TreeV.checkE;rw[J,hD]
 have U:=hid ad;rw[J,hD]at ac;rw[hC];have ai:(0:Int)<=o.length:=by omega
 clear J hD hC ad h hs ho hp hr;unfold TreeV.val at*;go_enter Tryz.func58,Tryz.ntmps58
 go_upto_region 1 with(fail)
 refine qm ?_;intro V S;have af:V.heap[O]? =some (.cells t.c 26 (0,0)):=by rw[S];exact(Bh _ _ _ (by simp;omega)).trans (qe _ _ q.symm)
 have Z:V.heap[O+1]? =some (.cells #[.int .u64 total,.int .u64 leaf,u] 55 (0,0)):=by rw[S];exact qe _ _ (by simp;omega)
 have X:Below O w V:=by rw[S,<-q];exact(Br.alloc Nl _).alloc (by simp) _
 have aj:O+1<V.heap.size:=(Ai Z).1;clear S;go_wp2_with (first|(refine L26 O rfl af ?_)|(refine L55 (O+1) rfl Z ?_))
 refine(ac.out V X).mono ?_;rintro e w2 ⟨v,rfl,hv,ae⟩;have HB:=hid (X.trans (ae.mono (by omega)));have HV:=hid hv;obtain⟨va,vc,rfl, -, -⟩:=id hv.hold.slice;clear hv ae X af Z;by_cases J:E=0
 case neg=>
  have hq:(E != 0)=true:=by rw[bne_iff_ne];exact J
  have I:C=E:=by rw[U.out,if_pos J]
  clear J U;go_wp2_with fail
  go_ret
  exact⟨by rw[I];rfl,by rw[q];exact HB.out⟩
 subst J;have aa:=hid (qjL D o _ _ w2 HV.out.hold (ag.out.below (q▸HB.out)));go_wp2_with fail
 refine aa.out.mono ?_;rintro e w3 ⟨rfl,rfl⟩;by_cases G:D=o
 ·have Y:decide (D=o)=true:=decide_eq_true G;have I:C=0:=by rw[U.out,if_neg (by simp),if_pos G]
  rw[Y];clear G Y aa U;go_wp2_with fail
  go_ret
  exact⟨by rw[I];rfl,by rw[q];exact HB.out⟩
 ·have Y:decide (D=o)=false:=decide_eq_false G;have I:C=110:=by rw[U.out,if_neg (by simp),if_neg G]
  rw[Y];clear G Y aa U;go_wp2_with fail
  go_ret
  exact⟨by rw[I];rfl,by rw[q];exact HB.out⟩
