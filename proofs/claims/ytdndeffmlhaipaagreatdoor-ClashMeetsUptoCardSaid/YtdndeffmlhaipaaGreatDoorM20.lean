/- A map from texts to numbers, told by a function. No condition. -/
import Derived.Test.YtdndeffmlhaipaaGreatDoorM01
import Derived.Test.YtdndeffmlhaipaaGreatDoorM19
import Derived.Maps.OwnSet
import Derived.StringKeys
import Derived.Laws.IdiomStrings
set_option linter.all false
set_option maxRecDepth 100000
set_option maxHeartbeats 8000000
namespace Go.Proofs.YtdndeffmlhaipaaGreatDoor
open Go.ChangeShapes Go.WideShapes Go.ChangeAt Go.RowKit Go.Joins Go.Shelf Go.Maps
def qek (v:Value):Option (DataW Unit×List MemPlace):=match v with
 | .int .i64 z=>some (.lit (.int .i64 z),[])
 | _=>none
def qdm (z:Int):DataW Unit:= .lit (.int .i64 z)
theorem JX:Keyed Tryz.prog 9:=string_keyed Tryz.underlying9
theorem qcE (s:List UInt8)(hs:s.length≤64):keyOf Tryz.prog 9 (.string ⟨s.toArray⟩)=some (.string s):=by
 have h:=Go.WideMaps.keyOf_string_mk (s:=⟨s.toArray⟩) Tryz.underlying9 (by unfold maxLen;show s.toArray.size≤_;simp;omega);simpa using h
theorem qeC (w:World):(zeroValue 3).run Tryz.prog w= .ok (.int .i64 0) w:=by kernel_rfl
def MapT (W:World)(b n:Nat)(S:List UInt8→Option Int):Prop:=
 ∃D:DataW Unit,W.ownsMap Tryz.prog 9 qek b n D∧ ∀s:List UInt8,s.length≤64→Maps.has D (.string s)=(S s).isSome∧ ∀v,S s=some v→D.atKey (.string s) (qdm 0)=qdm v
theorem MapT.made (w:World):MapT (w.alloc (.map #[] 0)) w.heap.size 0 (fun _=>none):=
 ⟨_,World.ownsMap_made w _ _ _,fun j _=>⟨rfl,fun v hv=>by cases hv⟩⟩
theorem MapT.blockM {W:World}{b n:Nat}{S:List UInt8→Option Int}(h:MapT W b n S): ∃es ck,W.heap[b]? =some (.map es ck):=by
 obtain⟨D,⟨es,ck,h1,h2⟩,h3⟩:=h;exact⟨es,ck,h1⟩
theorem MapT.keep {W W':World}{b n:Nat}{S:List UInt8→Option Int}(h:MapT W b n S)(hk:W'.heap[b]? =W.heap[b]?):MapT W' b n S:=by
 obtain⟨D,⟨es,ck,h1,h2⟩,h3⟩:=h;exact⟨D,⟨es,ck,hk.trans h1,h2⟩,h3⟩
theorem MapT.below {W W':World}{b n:Nat}{S:List UInt8→Option Int}(h:MapT W b n S)(hb:Below W.heap.size W W'):MapT W' b n S:=by
 obtain⟨es,ck,h1⟩:=h.blockM;exact h.keep (hb.block b (Ai h1).1)
theorem qcK {i j:List UInt8}(h:i≠j):Lit.string i≠Lit.string j:=fun e=>h (by simpa using e)
theorem qaY {w:World}{ops:Array Oper}{rest:List Oper}{o:Oper}{a:Act}{Q:Exit→Act→World→Prop}(hg:o.guard=none)(m x v:Operand)(hop:o.op=Op.mapUpdate 56 m x v)(b n:Nat)(S:List UInt8→Option Int)(hm:a.eval m= .map (some b))(h:MapT w b n S)(hn:n<1048576)
  (s:List UInt8) (hs:s.length≤64) (z:Int) (hx:a.eval x= .string ⟨s.toArray⟩) (hv:a.eval v= .int .i64 z)
  (hK: ∀w',MapT w' b (n+1) (fun q=>if q=s then some z else S q)→w.grownBy w' (some b)→wpList Tryz.prog ops Q rest (a.put o.dst undef) w'):wpList Tryz.prog ops Q (o::rest) a w:=by
 obtain⟨D,hD,hS⟩:=h;refine wpList_mapUpdate_own w hg m x v _ hop 9 3 JX Tryz.underlying56 qek b n D hm hD (by unfold maxLen;omega) _ _ _ hx hv (qcE s hs) (qdm z) [] rfl fun w' h1 h2=>hK w' ⟨_,h1,fun q hq=>?_⟩ h2
 have hmap:IsMap D:=by obtain⟨es,ck,k1,k2,k3,k4⟩:=hD;exact⟨_,k4⟩
 have hlit:WideAt.IsKeyLit (Lit.string s):=trivial;dsimp only;by_cases e:q=s
 ·subst e;rw[if_pos rfl,has_put_same hmap hlit];refine⟨rfl,fun v2 hv2=>?_⟩;obtain rfl:=Option.some.inj hv2;rw[atKey_put_same hmap hlit]
 ·rw[if_neg e,has_put_other (qcK e)];refine⟨(hS q hq).1,fun v2 hv2=>?_⟩;rw[atKey_put_other (qcK e)];exact(hS q hq).2 v2 hv2
theorem qbG {D:DataW Unit}{k:Lit}(h:Maps.has D k=false)(z:DataW Unit):D.atKey k z=z:=by
 cases D<;>try rfl
 rename_i es;unfold DataW.atKey;have h2:es.any (fun p=>p.1.sameKey k)=false:=h;have h3:es.find? (fun p=>p.1.sameKey k)=none:=List.find?_eq_none.2 (fun p hp=>by have:=List.any_eq_false.1 h2 p hp;simpa using this);simp only[h3]
theorem qbk {v:Value}{z:Int}{ps:List MemPlace}(h:qek v=some (qdm z,ps)):v= .int .i64 z:=by
 unfold qek at h;split at h
 ·simp only[qdm,Option.some.injEq,Prod.mk.injEq,DataW.lit.injEq,Lit.int.injEq,true_and]at h;rw[h.1]
 ·cases h
theorem qdI {w:World}{o:Oper}{a:Act}{K:Act→World→Prop}{Q:Exit→Act→World→Prop}(m x:Operand)(hop:o.op=Op.lookup 56 m x true)(b n:Nat)(S:List UInt8→Option Int)(hm:a.eval m= .map (some b))(h:MapT w b n S)
  (s:List UInt8) (hs:s.length≤64) (hx:a.eval x= .string ⟨s.toArray⟩)
  (hK:K (a.put o.dst (.tuple #[.int .i64 ((S s).getD 0),.bool (S s).isSome])) w):o.wp Tryz.prog a w K Q:=by
 obtain⟨D,hD,hS⟩:=h;have hz:qek (.int .i64 0)=some (qdm 0,[]):=rfl;obtain⟨v,ps,hrun,hv⟩:=hD.look_ok JX Tryz.underlying56 (qeC w) hz (qcE s hs);obtain⟨h1,h2⟩:=hS s hs;have hvv:v= .int .i64 ((S s).getD 0):=by
  cases hs:S s with
  | none=>
   rw[hs]at h1;rw[qbG h1]at hv;exact qbk hv
  | some u=>exact qbk (by rw[h2 u hs]at hv;exact hv)
 rw[h1,hvv]at hrun;unfold Oper.wp;simp[execOp,hop,hm,hx,hrun,Result.andThen]
 exact hK
theorem qdP {w:World}{a:Option Addr}{n cap:Nat}{zs:List Int}(h:Hold w (.slice a n cap) zs)(hne:zs≠[]): ∃l:List UInt8,zs=Q0 l∧(convert 24 9 (.slice a n cap)).run Tryz.prog w= .ok (.string ⟨l.toArray⟩) w:=by
 obtain⟨hb,h2⟩:=h;rcases h2 with⟨rfl, -⟩|⟨ad,cap',e,h1,h3,h4⟩
 ·exact absurd rfl hne
 ·simp only[Value.slice.injEq]at e;obtain⟨rfl,rfl,rfl⟩:=e;rcases h4 with h4|⟨b,off,rfl,hB⟩
  ·exact absurd h4 hne
  have key:zs=Q0 (zs.map fun z=>UInt8.ofNat z.toNat):=by
   unfold Q0;rw[List.map_map];conv=>lhs;rw[←List.map_id zs]
   refine List.map_congr_left fun z hz=>?_
   have:=hb z hz
   simp only[Function.comp,id,UInt8.toNat_ofNat'];omega
  refine⟨_,key,?_⟩;have hl:(zs.map fun z=>UInt8.ofNat z.toNat).length=zs.length:=by simp
  rw[←hl];refine run_convert_bytes_back w _ _ 5 _ _ _ Tryz.underlying24 Tryz.underlying5 Tryz.underlying9 fun j hj=>?_
  have hj':j<zs.length:=by rw[←hl];exact hj
  rw[Go.WideShapes.add_plain,hB.2 j hj'];have:=hb zs[j] (List.getElem_mem hj')
  have e:qp zs j=zs[j]:=by unfold qp;simp[Lg,hj']
  rw[e,List.getElem_map,UInt8.toNat_ofNat'];congr 2
  omega
theorem qc9 {w:World}{l:List UInt8}(hl:l.length≤64): ∃v w',(convert 9 24 (.string ⟨l.toArray⟩)).run Tryz.prog w= .ok v w'∧Hold w' v (Q0 l)∧Below w.heap.size w w':=by
 have h:=run_bytes_of_string (P:=Tryz.prog) w 9 24 5 ⟨l.toArray⟩ Tryz.underlying9 Tryz.underlying24 Tryz.underlying5;have hs:(⟨l.toArray⟩:ByteArray).size=l.length:=rfl;have hbl:(Q0 l).length=l.length:=by unfold Q0;simp
 refine⟨_,_,h,⟨qdF l,.inr ⟨⟨w.heap.size,0,none⟩,grownCap w l.length 0 5,by rw[hs,hbl],by rw[hbl];exact grownCap_ge _ _ _ _,grownCap_le_maxLen _ _ _ _ (by unfold maxLen;omega),.inr ⟨w.heap.size,0,rfl,?_,fun i hi=>?_⟩⟩⟩,Br.drew.alloc Nl _⟩
 ·rw[World.size_alloc];exact Nat.lt_succ_self _
 ·rw[hbl]at hi;have e:=World.cell?_alloc_mark w.drew (bytesRow ⟨l.toArray⟩ (grownCap w l.length 0 5)) 5 ((bytesRow ⟨l.toArray⟩ (grownCap w l.length 0 5)).size,(bytesRow ⟨l.toArray⟩ (grownCap w l.length 0 5)).size+1) (0+i);refine e.trans ?_;rw[Nat.zero_add,bytesRow_at _ _ _ (by simpa using hi)];unfold qp Q0;simp[Lg,hi]
theorem qat {w:World}{ops:Array Oper}{rest:List Oper}{o:Oper}{a:Act}{Q:Exit→Act→World→Prop}(hg:o.guard=none)(x:Operand)(hop:o.op=Op.convert 9 24 x)(l:List UInt8)(hx:a.eval x= .string ⟨l.toArray⟩)(hl:l.length≤64)
  (hK: ∀v w',Hold w' v (Q0 l)→Below w.heap.size w w'→wpList Tryz.prog ops Q rest (a.put o.dst v) w'):wpList Tryz.prog ops Q (o::rest) a w:=by
 refine wpList_plain hg fun K hK'=>?_
 obtain⟨v,w',h1,h2,h3⟩:=qc9 (w:=w) hl;unfold Oper.wp;simp[execOp,hop,hx,h1,Result.andThen]
 exact hK' _ _ (hK _ _ h2 h3)
theorem jk {w:World}{ops:Array Oper}{rest:List Oper}{o:Oper}{a:Act}{Q:Exit→Act→World→Prop}(hg:o.guard=none)(x:Operand)(hop:o.op=Op.convert 24 9 x)(v:Value)(zs:List Int)(hx:a.eval x=v)(h:Hold w v zs)(hne:zs≠[])
  (hK: ∀l,zs=Q0 l→wpList Tryz.prog ops Q rest (a.put o.dst (.string ⟨l.toArray⟩)) w):wpList Tryz.prog ops Q (o::rest) a w:=by
 refine wpList_plain hg fun K hK'=>?_
 obtain⟨ad,cap,rfl, -, -⟩:=h.slice;obtain⟨l,h1,h2⟩:=qdP h hne;unfold Oper.wp;simp[execOp,hop,hx,h2,Result.andThen]
 exact hK' _ _ (hK l h1)
theorem qas {w:World}{ops:Array Oper}{rest:List Oper}{o:Oper}{a:Act}{Q:Exit→Act→World→Prop}(hg:o.guard=none)(m x:Operand)(hop:o.op=Op.lookup 56 m x true)(b n:Nat)(S:List UInt8→Option Int)(hm:a.eval m= .map (some b))(h:MapT w b n S)
  (s:List UInt8) (hs:s.length≤64) (hx:a.eval x= .string ⟨s.toArray⟩)
  (hK:wpList Tryz.prog ops Q rest (a.put o.dst (.tuple #[.int .i64 ((S s).getD 0),.bool (S s).isSome])) w):wpList Tryz.prog ops Q (o::rest) a w:=
 wpList_plain hg fun K hK'=>qdI m x hop b n S hm h s hs hx (hK' _ _ hK)
end Go.Proofs.YtdndeffmlhaipaaGreatDoor
