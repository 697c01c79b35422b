/- ClashMeets, where what it reads is of bulk at most 1048576, and the library's tables as the program's text lays them: for all arguments the law returns true. No other condition. -/
import Derived.Test.YtdndeffmlhaipaaGreatDoorM45
import Derived.Test.YtdndeffmlhaipaaGreatDoorM39
import Derived.Test.YtdndeffmlhaipaaGreatDoorM46
import Derived.Deep.CondSized
import Derived.JoinedCond
set_option linter.all false
set_option maxRecDepth 100000
set_option maxHeartbeats 8000000
namespace Go.Proofs.YtdndeffmlhaipaaGreatDoor
open Go.ChangeShapes Go.WideShapes Go.ChangeAt Go.RowKit Go.Joins Go.Shelf Go.Maps
theorem jJ {H:Type}(enc:TypeId×Value→H)(W:World)(base:Nat)(args:Array Value)(ds:List (DataW H))(p:List MemPlace)
  (hval: ∀(j:Nat) t v,Tryz.f4.params[j]? =some t→args[j]? =some v→Value.okWide Tryz.prog W .any base t v)
  (hA:DataW.TrodAll enc Tryz.prog W 0 (fun _=>true) true Tryz.f4.params.toList args.toList ds p) (hlt: ∀x∈p,x.block<W.heap.size)
  (hk:Rows.uptoSmall H ds=true) (hT:TabW W):
  Calls Tryz.prog 4 args W (qcT W):=by
 rw[Tryz.params4]at hA hval;obtain⟨v0,v1,v2,d0,d1,d2,p0,p1,p2,rfl,rfl,rfl,h0,h1,h2⟩:=trodAll_three hA;have hb:Rows.uptoBulk d0+(Rows.uptoBulk d1+(Rows.uptoBulk d2+0))≤1048576:=of_decide_eq_true hk;obtain⟨t,kz,z1,z2,rfl,hl,ht,b1,b2,b3⟩:=Je (hval 0 26 v0 rfl rfl) h0 (fun x hx=>hlt x (by simp[hx]));obtain⟨F,rfl,hF⟩:=qa9 (hval 1 3 v1 rfl rfl) h1;obtain⟨M,rfl,hM⟩:=qa9 (hval 2 3 v2 rfl rfl) h2;exact jG t kz z1 z2 F M W hl ht.k ht.s ht.p hF hM hT (by have:=Qf ht.k;omega) (by have:=Qf ht.s;omega) (by have:=Qf ht.p;omega)
theorem jI (os:Os):laidMet Tryz.prog Rows.clashMeetsUptoRow.laid ((yX os).forCall (fun _ _=>0) ⟨#[],#[.agg #[.int .i64 0,.int .i64 0,.int .i64 0,.int .i64 0,.int .u32 0,.int .i64 0,.slice none 0 0,.slice none 0 0,.slice none 0 0],.int .i64 0,.int .i64 0],[]⟩).memory:=
 laidMet_of_run' 8 (by kernel_rfl) (by kernel_rfl)
theorem jc (os:Os){H:Type}(enc:TypeId×Value→H): ∃places,DataW.whole enc Tryz.prog ((yX os).forCall (fun _ _=>0) ⟨#[],#[.agg #[.int .i64 0,.int .i64 0,.int .i64 0,.int .i64 0,.int .u32 0,.int .i64 0,.slice none 0 0,.slice none 0 0,.slice none 0 0],.int .i64 0,.int .i64 0],[]⟩).memory Tryz.f4.params.toList Rows.clashMeetsSpec.vars false (#[.agg #[.int .i64 0,.int .i64 0,.int .i64 0,.int .i64 0,.int .u32 0,.int .i64 0,.slice none 0 0,.slice none 0 0,.slice none 0 0],.int .i64 0,.int .i64 0]:Array Value).toList 40=some ([.agg [.lit (.int .i64 0),.lit (.int .i64 0),.lit (.int .i64 0),.lit (.int .i64 0),.lit (.int .u32 0),.lit (.int .i64 0),.nil,.nil,.nil],.lit (.int .i64 0),.lit (.int .i64 0)],[],places):=
 ⟨[],by kernel_rfl⟩
theorem ZR (os:Os)(started:os.Started)(H:Type)(enc:TypeId×Value→H)(F0:Stop.Interp):
  ReturnsInHanded {} Tryz.checked os 4 .any ((Rows.OpenSpec.upto Rows.clashMeetsSpec).preRow enc Tryz.prog Tryz.f4 Rows.clashMeetsUptoRow.domain false Rows.clashMeetsUptoRow.laid) (((Rows.OpenSpec.upto Rows.clashMeetsSpec).at F0).post enc Tryz.prog Tryz.f4 false true false false):=by
 obtain⟨places,hx⟩:=jc os enc;refine returnsInHanded_of_row (C:=Tryz.checked) (s:=Rows.OpenSpec.upto Rows.clashMeetsSpec) own started (by kernel_rfl) Tryz.func4
  (witness_row_at (enc:=enc) (C:=Tryz.checked) false (yX os) #[.agg #[.int .i64 0,.int .i64 0,.int .i64 0,.int .i64 0,.int .u32 0,.int .i64 0,.slice none 0 0,.slice none 0 0,.slice none 0 0],.int .i64 0,.int .i64 0] rfl (by kernel_rfl) (by kernel_rfl) (by kernel_rfl)
   (OpenSpec.preRow_of_cond 40 hx (by kernel_rfl) (fun k hk=>by cases hk;kernel_rfl) (by kernel_rfl) (jI os))) ?_
 intro W base args ds gs before hval0 hW _ hcond _ hL _ _;have hW':=hW;obtain⟨p,q,hA0,hV,rfl,hfz,hnd⟩:=hW;have hA:DataW.TrodAll enc Tryz.prog W 0 (fun _=>true) true Tryz.f4.params.toList args.toList ds p:=hA0;obtain⟨rfl,rfl⟩:=trodVars_none hV;have hk':Rows.uptoSmall H ds=true:=by rw[←List.append_nil ds];exact hcond _ rfl
 refine(jJ enc W base args ds p hval0 hA (fun x hx=>hW'.lt x (by simpa using hx)) hk' (jn hL)).mono fun e W' h=>⟨_,h.1,?_⟩
 refine z7 (s:=(Rows.OpenSpec.upto Rows.clashMeetsSpec).at F0) qcM _ rfl Tryz.underlying4 (by decide+kernel) rfl hW' ?_ h.2;have hA':=hA;rw[Tryz.params4]at hA';obtain⟨v0,v1,v2,d0,d1,d2,p0,p1,p2,rfl,rfl,_⟩:=trodAll_three hA';rfl
theorem jH:Rows.ClashMeetsUptoSaid:=
 OpenClaim.holds_of_cond 4 Tryz.f4 rfl rfl rfl rfl rfl rfl rfl ⟨rfl,rfl,rfl,rfl,rfl⟩ rfl rfl rfl rfl rfl (by kernel_rfl) Tryz.func4 (by kernel_rfl)
  (of_decide_eq_true (by kernel_rfl)) (by unfold Func.isWrapper;first|(rw[if_pos (by decide+kernel)];kernel_rfl)|(rw[if_neg (by decide+kernel)];exact⟨rfl,rfl⟩))
  (fun os started H enc _ F0=>by rw[OpenClaim.pre_eq_preRow];exact ZR os started H enc F0)
theorem jd (f:FuncId)(fn:Func)(hf:Tryz.pinned.checked.prog.funcNamed Rows.clashMeetsUptoRow.func=some f)(hfn:Tryz.pinned.checked.prog.funcs[f]? =some fn):
  true=Tryz.pinned.checked.prog.looks []∧ ∀(j:Nat) t,fn.params[j]? =some t→Tryz.pinned.checked.prog.wantsStandIn t=false:=by
 obtain rfl:f=4:=Option.some.inj ((show Tryz.prog.funcNamed Rows.clashMeetsUptoRow.func=some 4 by kernel_rfl).symm.trans hf) |>.symm
 obtain rfl:fn=Tryz.f4:=(Option.some.inj (Tryz.func4.symm.trans hfn)).symm;refine⟨by kernel_rfl,fun j t ht=>?_⟩;rw[Tryz.params4]at ht;have hm:t∈([26,3,3]:List TypeId):=by simpa using Array.mem_of_getElem? ht
 have hall:([26,3,3]:List TypeId).all (fun t=> !Tryz.prog.wantsStandIn t)=true:=by kernel_rfl
 have h1:=List.all_eq_true.1 hall t hm;have h2:Tryz.prog.wantsStandIn t=false:=by simpa using h1
 exact h2
theorem clashMeets_holds:Rows.ClashMeetsUptoCardSaid:=
 Claim7.holds_tied_plain_at .later [] _ _ _ _ jH (fun _ h=>by cases h) (by kernel_rfl) (fun _ h=>by cases h) clashMeetsUpto_row_tie rfl ⟨rfl,rfl⟩ (by kernel_rfl) rfl jd (by kernel_rfl)
#print axioms clashMeets_holds
end Go.Proofs.YtdndeffmlhaipaaGreatDoor
