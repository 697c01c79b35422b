/- The account of all nodes' outputs. No condition. -/
import Derived.Test.YtdndeffmlhaipaaGreatDoorM36
import Derived.Test.YtdndeffmlhaipaaGreatDoorM32
import Derived.Test.YtdndeffmlhaipaaGreatDoorM29
import Derived.Test.YtdndeffmlhaipaaGreatDoorM18
set_option linter.all false
set_option maxRecDepth 100000
set_option maxHeartbeats 8000000
namespace Go.Proofs.YtdndeffmlhaipaaGreatDoor
open Go.ChangeShapes Go.WideShapes Go.ChangeAt Go.RowKit Go.Joins Go.Shelf Go.Maps
attribute [local go_sem] Oper.semAt_some
theorem qaE {w:World}{B T n s:Nat}{v:Value}{xs:List Value}(ho:w.ownsRow B T s v n xs): ∀g,v.ownBlock=some g→ ∃c,w.heap[g]? =some (.cells c T (0,0)):=by
 intro g hg;rcases ho.2 with⟨rfl, -⟩|⟨g',cap,cur,rfl, -,h2, -⟩
 ·cases hg
 ·simp only[Value.ownBlock,Option.some.injEq]at hg;subst hg;exact⟨_,h2⟩
theorem CallAt.cells {w0 w:World}{B:Nat}{s:CallS}{c:List Value}(h:CallAt w0 B w s c): ∃bv kv dv,c=[.int .i64 s.k,bv,kv,.bool s.la,.int .i64 s.o,dv]∧Hold w bv s.bs∧Hold w kv s.kz∧Hold w dv s.ds:=by
 obtain⟨a1,n1,c1,a2,n2,c2,a3,n3,c3,rfl,h1,h2,h3⟩:=h;exact⟨_,_,_,rfl,h1.hold,h2.hold,h3.hold⟩
theorem qaM {α:Type}{n:Nat}: ∀{cs:List (List α)},(∀c∈cs,c.length=n)→ ∀{i j:Nat},i<cs.length→j<n→cs.flatten[i*n+j]? =(cs.getD i [])[j]?
 | [],_,i,j,hi,_=>by simp at hi
 | c::cs,h,i,j,hi,hj=>by
  have hc:=h c (List.mem_cons_self ..)
  cases i with
  | zero=>
   rw[List.flatten_cons,List.getElem?_append_left (by omega),Nat.zero_mul,Nat.zero_add];rfl
  | succ i=>
   have e:(i+1)*n+j - c.length=i*n+j:=by rw[hc,Nat.add_mul];omega
   rw[List.flatten_cons,List.getElem?_append_right (by rw[hc,Nat.add_mul];omega),e];exact qaM (fun c hc=>h c (List.mem_cons_of_mem _ hc)) (by simpa using hi) hj
theorem CallsO.get {w0 w:World}{B i:Nat}{v:Value}{S:List CallS}{s:CallS}(h:CallsO w0 B w v S)(hi:i<S.length)(hs:S.getD i .zero=s):
  ∃g cap cur bv kv dv,v= .slice (some ⟨g,0,none⟩) S.length cap∧B≤g∧w.heap[g]? =some (.cells cur 40 (0,0))∧(∀j,j<6→cur[i*6+j]? =(#[.int .i64 s.k,bv,kv,.bool s.la,.int .i64 s.o,dv]:Array Value)[j]?)∧Hold w bv s.bs∧Hold w kv s.kz∧Hold w dv s.ds:=by
 obtain⟨cs,hl,ho,hx⟩:=h;rcases ho.2 with⟨-,e⟩|⟨g,cap,cur,rfl,h1,h2,h3,h4,h5,h6⟩
 ·omega
 obtain⟨bv,kv,dv,e,k1,k2,k3⟩:=(hx i hi).cells;rw[hs]at e k1 k2 k3;refine⟨g,cap,cur,bv,kv,dv,rfl,h1,h2,fun j hj=>?_,k1,k2,k3⟩;have h7:=qaM (n:=6) (cs:=cs) (fun c hc=>by
  obtain⟨q,hq,rfl⟩:=List.mem_iff_getElem.1 hc;obtain⟨_,_,_,e, -⟩:=(hx q (by omega)).cells;rw[Lg (l:=cs),List.getElem?_eq_getElem hq]at e;rw[show cs[q]=_ from e];rfl) (i:=i) (j:=j) (by omega) hj
 rw[e,←h6,List.getElem?_take]at h7;rw[if_pos (by omega)]at h7;rw[←Array.getElem?_toList,h7,←Array.getElem?_toList]
theorem YH {t:TreeV}(h:t.validE=0)(hl:0≤t.l∧t.l≤4294967295)(kz z1 z2 zs:List Int)(r:Nat):1≤(t.callsR kz z1 z2 zs r).length∧(t.callsR kz z1 z2 zs r).length≤zs.length+1:=by
 have:=yi h hl kz z1 z2 zs r
 unfold TreeV.callsR;rw[qq];exact⟨this.1,this.2.1⟩
theorem Y4 (t:TreeV)(a1:Option Addr)(c1:Nat)(a2:Option Addr)(c2:Nat)(a3:Option Addr)(c3:Nat)(kz z1 z2 zs:List Int): ∀r,(t.sw a1 c1 a2 c2 a3 c3).callsR kz z1 z2 zs r=t.callsR kz z1 z2 zs r
 | 0=>rfl
 | r+1=>by
  show TreeV.rowC _ _ _ _ _ (TreeV.rootZ _ _ (TreeV.lvlZ _ _ _ _ _ r).length) (TreeV.upZ _ _ (TreeV.lvlZ _ _ _ _ _ r)) (TreeV.upZ _ _ (TreeV.lvlZ _ _ _ _ _ r)).length=_
  rw[Yw];rfl
end Go.Proofs.YtdndeffmlhaipaaGreatDoor
