/- The frame of every law of this seat: a law that returns true and turns nothing that was there is proved as its row says. No condition. -/
import Derived.ProofKit
import Derived.WalkKit
import Derived.Below
import Derived.Carry
import Derived.SizedLaws
import Derived.Deep.CondSized
import Derived.Lib.SmallJoins
import Derived.Lib.ItoaNum
import Derived.Lib.ItoaLen
set_option linter.all false
set_option maxRecDepth 100000
set_option maxHeartbeats 8000000
namespace Go.Proofs.YtdndeffmlhaipaaGreatDoor
open Go.ChangeShapes Go.WideShapes Go.ChangeAt Go.RowKit
theorem zX {H:Type}{enc:TypeId×Value→H}{P:Program}(hl:laidOutB P=true){W W':World}(hb:Below W.heap.size W W'):
  ∀(ts:List TypeId) (vs:List Value) (ds:List (DataW H)) (ps:List MemPlace),(∀t∈ts,P.readableRec t=true∧t<P.types.size)→
   DataW.TrodAll enc P W 0 (fun _=>true) true ts vs ds ps→(∀x∈ps,x.block<W.heap.size)→
   DataW.TrodAll enc P W' 0 (fun b=>decide (b<W.heap.size)) true ts vs ds ps
 | [],vs,ds,ps,_,h,_=>by
  obtain⟨rfl,rfl,rfl⟩:=trodAll_nil h;exact rfl
 | t::ts,vs,ds,ps,hr,h,hlt=>by
  obtain⟨v,vs',d,ds',p,q,rfl,rfl,rfl,h1,h2⟩:=trodAll_cons h;obtain⟨r1,r2⟩:=hr t (by simp);refine⟨p,q,Below.trod hl r1 r2 h1 hb (fun x hx=>hlt x (by simp[hx])),?_,rfl⟩;exact zX hl hb ts vs' ds' q (fun t' ht'=>hr t' (by simp[ht'])) h2 (fun x hx=>hlt x (by simp[hx]))
def qcT (W:World)(e:Ending)(W':World):Prop:=e= .returned (.bool true)∧Below W.heap.size W W'
theorem z7 {H:Type}{enc:TypeId×Value→H}{P:Program}{f:Func}{s:ChangeSpec}(hl:laidOutB P=true)(tb:TypeId)(hres:f.resultTypes= #[tb])(hub:P.underlying tb=some .bool)
  (hread: ∀t∈f.params.toList,P.readableRec t=true∧t<P.types.size) (hv:s.vars=[]) {W W':World} {args:Array Value} {ds gs:List (DataW H)} {before:List MemPlace}
  (hW:DataW.Whole enc P f.params.toList s.vars false W args.toList ds gs before) (hs:s.fn H (ds++gs)= { results:=[.lit (.bool true)],args:=ds })
  (hb:Below W.heap.size W W'):s.post enc P f false true false false W args (.bool true) W':=by
 have hW':=hW;obtain⟨p,q,hA,hV,hpq,hfz,hnd⟩:=hW;rw[hv]at hV;obtain⟨rfl,rfl⟩:=trodVars_none hV;have hlt: ∀x∈p,x.block<W.heap.size:=fun x hx=>hW'.lt x (by rw[hpq];simpa using hx)
 refine⟨ds,[],before,[],p,[],hW',?_,?_,?_,?_,fun h=>by cases h⟩
 ·rw[hs,hres];exact trodAll_mk1 (shut_bool hub _)
 ·rw[hs];exact zX hl hb _ _ _ _ hread hA hlt
 ·rw[hs,hv];exact rfl
 ·exact hb.frame _
end Go.Proofs.YtdndeffmlhaipaaGreatDoor
namespace Go.Proofs.YtdndeffmlhaipaaGreatDoor
open Go
def Q0 (l:List UInt8):List Int:=l.map fun b=>(b.toNat:Int)
def yT (i:Int):List Int:=Q0 (Lib.itoa i)
def Zs (n:Nat):List Int:=Q0 (Lib.decDigits n)
theorem Jy: ∀{a b:List UInt8},Q0 a=Q0 b→a=b
 | [],[],_=>rfl
 | [],_::_,h=>by simp[Q0]at h
 | _::_,[],h=>by simp[Q0]at h
 | x::a,y::b,h=>by
  simp only[Q0,List.map_cons,List.cons.injEq]at h;have h1:x=y:=by
   have:x.toNat=y.toNat:=by omega
   exact UInt8.toNat_inj.1 this
  rw[h1,Jy (a:=a) (b:=b) h.2]
theorem qeq (a b:List UInt8):Q0 (a++b)=Q0 a++Q0 b:=List.map_append
theorem qdF (l:List UInt8): ∀z∈Q0 l,0≤z∧z≤255:=fun z hz=>by
 obtain⟨b, -,rfl⟩:=List.mem_map.1 hz;have:=b.toNat_lt
 omega
theorem yq {n:Nat}(h:n<10):Zs n=[((48+n:Nat):Int)]:=by
 unfold Zs;rw[Lib.decDigits,dif_pos h];simp only[Q0,List.map_cons,List.map_nil,List.cons.injEq,and_true];rw[UInt8.toNat_ofNat'];omega
theorem YD {n:Nat}(h: ¬n<10):Zs n=Zs (n/10)++[((48+n%10:Nat):Int)]:=by
 unfold Zs;rw[Lib.decDigits,dif_neg h,qeq];congr 1
 simp only[Q0,List.map_cons,List.map_nil,List.cons.injEq,and_true];rw[UInt8.toNat_ofNat'];omega
theorem Jq (n:Nat):1≤(Zs n).length:=by
 by_cases h:n<10
 ·rw[yq h];exact Nat.le_refl _
 ·rw[YD h];simp
theorem qdv (n:Nat): ∀z∈Zs n,48≤z∧z≤57:=by
 induction n using Nat.strongRecOn with
 | _ n ih=>
  by_cases h:n<10
  ·rw[yq h];intro z hz;simp at hz
   omega
  ·rw[YD h];intro z hz;rcases List.mem_append.1 hz with h1|h1
   ·exact ih (n/10) (by omega) z h1
   ·simp at h1;omega
theorem qbo: ∀(n m:Nat),Zs n=Zs m→n=m:=by
 intro n;induction n using Nat.strongRecOn with
 | _ n ih=>
  intro m e;by_cases h:n<10
  ·by_cases h2:m<10
   ·rw[yq h,yq h2]at e;simp at e
    omega
   ·rw[yq h,YD h2]at e;have:=congrArg List.length e
    have h3:=Jq (m/10);rw[List.length_append,List.length_singleton,List.length_singleton]at this;omega
  ·by_cases h2:m<10
   ·rw[yq h2,YD h]at e;have:=congrArg List.length e
    have h3:=Jq (n/10);rw[List.length_append,List.length_singleton,List.length_singleton]at this;omega
   ·rw[YD h,YD h2]at e;have e2:=List.append_inj' e rfl;have e3:=ih (n/10) (by omega) (m/10) e2.1;have e4:=e2.2;simp at e4
    omega
theorem zk (n:Nat):yT (n:Int)=Zs n:=by
 unfold yT Lib.itoa Zs;rw[if_neg (by omega)];rfl
theorem zj {i:Int}(h:i<0):yT i=45::Zs i.natAbs:=by
 unfold yT Lib.itoa Zs;rw[if_pos h];rfl
theorem qea {i j:Int}(e:yT i=yT j):i=j:=by
 have hd: ∀(n m:Nat),Zs n≠45::Zs m:=fun n m e=>by
  have:=qdv n 45 (by rw[e];simp)
  omega
 by_cases h:i<0
 ·by_cases h2:j<0
  ·rw[zj h,zj h2]at e;have:=qbo _ _ (List.cons.inj e).2
   omega
  ·obtain⟨m,rfl⟩: ∃m:Nat,j=m:=⟨j.toNat,by omega⟩;rw[zj h,zk]at e;exact absurd e.symm (hd _ _)
 ·obtain⟨n,rfl⟩: ∃n:Nat,i=n:=⟨i.toNat,by omega⟩;by_cases h2:j<0
  ·rw[zj h2,zk]at e;exact absurd e (hd _ _)
  ·obtain⟨m,rfl⟩: ∃m:Nat,j=m:=⟨j.toNat,by omega⟩;rw[zk,zk]at e;rw[qbo _ _ e]
theorem Yb {i:Int}(h0: -9223372036854775808≤i)(h1:i≤9223372036854775807):(yT i).length≤21∧1≤(yT i).length:=by
 refine⟨by unfold yT Q0;rw[List.length_map];exact Lib.itoa_length_le i h0 h1,?_⟩;by_cases h:i<0
 ·rw[zj h];simp
 ·obtain⟨n,rfl⟩: ∃n:Nat,i=n:=⟨i.toNat,by omega⟩;rw[zk];exact Jq n
def NoDup (D:Nat→List Int)(n:Nat):Prop:= ∀i j,i<j→j<n→D i≠D j
theorem NoDup.succ {D:Nat→List Int}{n:Nat}(h:NoDup D n)(hk: ∀k,k<n→D k≠D n):NoDup D (n+1):=fun i j hij hj=>by
 by_cases e:j=n
 ·rw[e];exact hk i (by omega)
 ·exact h i j hij (by omega)
theorem qbb: ∀(l1 l2:List Nat),l1.Nodup→(∀x∈l1,x∈l2)→l1.length≤l2.length
 | [],_,_,_=>Nat.zero_le _
 | x::xs,l2,hn,hs=>by
  rw[List.nodup_cons]at hn;have hx:=hs x List.mem_cons_self;have h1:=qbb xs (l2.erase x) hn.2 (fun y hy=>(List.mem_erase_of_ne (fun e=>hn.1 (by rw[←e];exact hy))).2 (hs y (List.mem_cons_of_mem _ hy)));rw[List.length_erase_of_mem hx]at h1;have:0<l2.length:=List.length_pos_of_mem hx
  rw[List.length_cons];omega
theorem qff {D:Nat→List Int}(h: ∀i,i<257→ ∃z,D i=[z]∧0≤z∧z≤255): ¬NoDup D 257:=fun hn=>by
 have hf: ∀i,i<257→ ∃z:Nat,D i=[(z:Int)]∧z<256:=fun i hi=>by
  obtain⟨z,e,h1,h2⟩:=h i hi;exact⟨z.toNat,by rw[e];congr 1;omega,by omega⟩
 obtain⟨f,hf⟩: ∃f:Nat→Nat,∀i,i<257→D i=[(f i:Int)]∧f i<256:=by
  refine⟨fun i=>if hi:i<257 then Classical.choose (hf i hi) else 0,fun i hi=>?_⟩;dsimp only;rw[dif_pos hi];exact Classical.choose_spec (hf i hi)
 have hnd:((List.range 257).map f).Nodup:=by
  rw[List.nodup_iff_pairwise_ne,List.pairwise_map];have h0:(List.range 257).Pairwise (· < ·):=List.pairwise_lt_range;refine h0.imp_of_mem fun {a b} ha hb hab e=>?_
  exact hn a b hab (List.mem_range.1 hb) (by rw[(hf a (List.mem_range.1 ha)).1,(hf b (List.mem_range.1 hb)).1,e])
 have:=qbb _ (List.range 256) hnd fun x hx=>by
  obtain⟨i,hi,rfl⟩:=List.mem_map.1 hx;exact List.mem_range.2 (hf i (List.mem_range.1 hi)).2
 rw[List.length_map,List.length_range,List.length_range]at this;omega
end Go.Proofs.YtdndeffmlhaipaaGreatDoor
