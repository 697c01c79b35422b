/- What a path leads to, told of all; Check on both sides. No condition. -/
import Derived.Test.YtahenngmaoellaaGreatC41
import Derived.Test.YtahenngmaoellaaGreatC17
import Derived.Test.YtahenngmaoellaaGreatC22
import Derived.Laws.BytesArg
import Derived.BigQuiet
import Derived.Deep.QuietTactic
import Derived.Test.YtahenngmaoellaaGreatC43
set_option linter.all false
set_option maxRecDepth 100000
set_option maxHeartbeats 8000000
namespace Go.Proofs.YtahenngmaoellaaGreat
open Go.ChangeShapes Go.WideShapes Go.ChangeAt Go.RowKit Go.Joins Go.Shelf Go.Maps
attribute [local go_sem] Oper.semAt_some
theorem TreeH.below {w w':World}{t:TreeV}{kz z1 z2:List Int}(h:TreeH w t kz z1 z2)(hb:Below w.heap.size w w'):TreeH w' t kz z1 z2:=⟨h.k.below hb,h.s.below hb,h.p.below hb⟩
def TreeV.fitsQ (t:TreeV)(total leaf:Nat)(ss:List yr)(piece:List Int):Prop:=(piece.length:Int)=((qw t total leaf 0).to_:Int) - ((qw t total leaf 0).frm:Int)∧qbu t.i ((t.rowsOf total).length - 1) (chI t total leaf) (afI t total leaf) ss
open Classical in
noncomputable def TreeV.rootE (t:TreeV)(total leaf:Nat)(ss:List yr)(piece:List Int):Int:=
 if t.spotE total 0 leaf≠0 then t.spotE total 0 leaf else if t.fitsQ total leaf ss piece then 0 else 4
open Classical in
noncomputable def TreeV.rootD (t:TreeV)(kz z1 z2:List Int)(total leaf:Nat)(ss:List yr)(piece:List Int):List Int:=
 if t.spotE total 0 leaf=0∧t.fitsQ total leaf ss piece then t.pathR kz z1 z2 total leaf ss piece ((t.rowsOf total).length - 1) else []
theorem qdx (b:Nat)(w:World):OwnB b w (.slice none 0 0) []:=⟨(fun a ha=>by cases ha),.inl ⟨rfl,rfl⟩⟩
theorem qad {t:TreeV}{kz z1 z2:List Int}{total leaf:Nat}{ss:List yr}{piece:List Int}{b:Nat}{w:World}{v:Value}{e:Int}(h:JB t kz z1 z2 total leaf ss piece b w v e):e=t.rootE total leaf ss piece∧OwnB b w v (t.rootD kz z1 z2 total leaf ss piece):=by
 unfold TreeV.rootE TreeV.rootD TreeV.fitsQ;rcases h with⟨h1,rfl,rfl⟩|⟨h1,h2,rfl,rfl⟩|⟨h1,h2,rfl,h3⟩
 ·rw[if_pos h1,if_neg (fun h=>h1 h.1)];exact⟨rfl,qdx _ _⟩
 ·rw[if_neg (by simp[h1]),if_neg h2,if_neg (fun h=>h2 h.2)];exact⟨rfl,qdx _ _⟩
 ·rw[if_neg (by simp[h1]),if_pos h2,if_pos ⟨h1,h2⟩];exact⟨rfl,h3⟩
theorem qgX (t:TreeV)(kz z1 z2 piece:List Int)(total leaf:Nat)(ht:(total:Int)≤18446744073709551615)(hleaf:(leaf:Int)≤18446744073709551615)(hl:0≤t.l∧t.l≤4294967295)(u pv:Value)(ss:List yr)(w:World)(h:TreeH w t kz z1 z2)(hs:StepsAt w u ss)(ho:jy 1048576 ss)(hp:Hold w pv piece)(hpl:piece.length≤1048576):
  Calls Tryz.prog 55 #[t.val,.agg #[.int .u64 total,.int .u64 leaf,u],pv] w fun r w'=> ∃v,r= .returned (.tuple #[v,.int .i64 (t.rootE total leaf ss piece)])∧OwnB w.heap.size w' v (t.rootD kz z1 z2 total leaf ss piece)∧Below w.heap.size w w':=by
 by_cases he:t.spotE total 0 leaf=0
 ·have hv:t.validE=0:=(j8 hl ht he).2.2.2.2;refine(qh1 t kz z1 z2 piece total leaf ht hleaf he u pv ss w ⟨hv,hl,h.k,h.s,h.p⟩ hs ho hp hpl).mono ?_;rintro r w' ⟨v,e,rfl,hsay,hb⟩
  obtain⟨rfl,ho⟩:=qad hsay;exact⟨v,rfl,ho,hb⟩
 ·refine(qgW t hl total leaf ht he u pv w).mono ?_;rintro r w' ⟨rfl,hb⟩
  obtain⟨e,ho⟩:=qad (kz:=kz) (z1:=z1) (z2:=z2) (ss:=ss) (piece:=piece) (b:=w.heap.size) (w:=w') (.inl ⟨he,rfl,rfl⟩);exact⟨_,by rw[←e],ho,hb⟩
end Go.Proofs.YtahenngmaoellaaGreat
