/- Two slices of bytes compared, by the program and by the reference. No condition. -/
import Derived.Test.YtdndeffmlhaipaaGreatDoorS19
import Derived.Laws.BytesArg
import Derived.BigQuiet
import Derived.Deep.QuietTactic
set_option linter.all false
set_option maxRecDepth 100000
set_option maxHeartbeats 8000000
namespace Go.Proofs.YtdndeffmlhaipaaGreatDoor
open Go.ChangeShapes Go.WideShapes Go.ChangeAt Go.RowKit Go.Joins Go.Shelf Go.Maps
open Go.Lib (hid)
attribute [local go_sem] Oper.semAt_some
theorem qe6 {xs ys:List Int}(hl:xs.length=ys.length)(h: ∀j,j<xs.length→qm xs j=qm ys j):xs=ys:=by
  apply List.ext_getElem hl
  intro i h1 h2;have:=h i h1
  simpa [qm,Lg,h1,h2] using this
theorem qcU (xs ys:List Int)(u v:Value)(w:World)(hu:Hold w u xs)(hv:Hold w v ys):
    Calls Tryz.prog 26 #[u,v] w fun e w'=>e= .returned (.bool (decide (xs=ys)))∧ ∃m,w'=w.drewN m:=by
  obtain⟨a,cap,rfl,hc1,hc2⟩:=hu.slice;obtain⟨a',cap',rfl,hc1',hc2'⟩:=hv.slice;have hx:=hu.1;have hy:=hv.1;obtain⟨a2,cap2,e,h⟩:=hu.holds8;obtain⟨a3,cap3,e',h'⟩:=hv.holds8;simp only[Value.slice.injEq,true_and]at e e';obtain⟨rfl,rfl⟩:=e;obtain⟨rfl,rfl⟩:=e';by_cases hl:xs.length=ys.length
  case neg=>
    have e:decide (xs=ys)=false:=decide_eq_false (fun e=>hl (by rw[e]));have hq:((xs.length:Int) != ys.length)=true:=by rw[bne_iff_ne];omega
    rw[e];clear h h' hu hv hc1 hc2 hc1' hc2' hx hy hl e;go_enter Tryz.func26,Tryz.ntmps26
    go_wp2
    go_ret
    exact⟨rfl,0,rfl⟩
  have hq:((xs.length:Int) != ys.length)=false:=by simp[hl]
  have hmax:(xs.length:Int)≤9223372036854775807:=by omega
  by_cases h0:xs=[]
  · subst h0
    obtain rfl:ys=[]:=List.eq_nil_of_length_eq_zero hl.symm;clear h h' hu hv;go_enter Tryz.func26,Tryz.ntmps26
    go_wp2_with fail
    go_loopw [5] (fun i wr=>i= .int .i64 0∧w=wr) (fun _ _=>0)
    case atStart=>exact⟨rfl,rfl⟩
    case round=>
      obtain⟨rfl,rfl⟩:=hrel;go_wp2
      go_ret
      exact⟨rfl,0,rfl⟩
  have h0':ys≠[]:=fun e=>h0 (List.eq_nil_of_length_eq_zero (by rw[hl,e];rfl))
  obtain⟨b,off,rfl,hb1,hb2⟩:=h.resolve_left h0;obtain⟨b',off',rfl,hb1',hb2'⟩:=h'.resolve_left h0';have H2:=hid hb2;have H2':=hid hb2';have HX:=hid hx;have HY:=hid hy;have HL:=hid hl;obtain⟨r,hr⟩: ∃r,decide (xs=ys)=r:=⟨_,rfl⟩;rw[hr];have HR:=hid hr;clear h h' hb2 hb2' hu hv hx hy h0 h0' hr;go_enter Tryz.func26,Tryz.ntmps26
  go_wp2_with fail
  go_loopw [5] (fun i wr=> ∃(k n:Nat),i= .int .i64 k∧k≤xs.length∧wr=w.drewN n∧Hid (∀j,j<k→qm xs j=qm ys j)) (fun i _=>xs.length - (intOf i).toNat)
  case atStart=>exact⟨0,0,rfl,Nat.zero_le _,rfl,hid (fun j hj=>absurd hj (Nat.not_lt_zero _))⟩
  case round=>
    obtain⟨k,n,rfl,hk,rfl,HP⟩:=hrel;by_cases hlt:k<xs.length
    · have e1:w.cell? ⟨b,off+k,none⟩=some (.int .u8 (qm xs k)):=H2.out k hlt
      have e2:w.cell? ⟨b',off'+k,none⟩=some (.int .u8 (qm ys k)):=H2'.out k (by omega);obtain⟨zx,hzx⟩:=Ex (qm xs k);obtain⟨zy,hzy⟩:=Ex (qm ys k);rw[hzx]at e1;rw[hzy]at e2;have HZ:=hid (show qm xs k=zx∧qm ys k=zy from⟨hzx,hzy⟩);clear hzx hzy;obtain⟨q,hqq⟩: ∃q,(zx != zy)=q:=⟨_,rfl⟩
      cases q
      case false=>
        go_wp2
        go_quiet (fail)
        go_wp2
        exact⟨⟨k+1,n+nq,by go_num,by omega,rfl,hid (fun j hj=>by
          rcases Nat.lt_or_ge j k with h|h
          · exact HP.out j h
          · obtain rfl:j=k:=by omega
            rw[HZ.out.1,HZ.out.2];simpa using hqq)⟩,by simp[intOf];omega⟩
      case true=>
        obtain rfl:r=false:=by
          rw[←HR.out,decide_eq_false];rintro rfl
          rw[bne_iff_ne]at hqq;exact hqq (HZ.out.1.symm.trans HZ.out.2)
        go_wp2
        go_quiet (fail)
        go_wp2
        go_ret
        exact⟨rfl,n+nq,by rw[World.drewN_drewN]⟩
    · obtain rfl:k=xs.length:=by omega
      obtain rfl:r=true:=by
        rw[←HR.out,decide_eq_true];exact qe6 HL.out (fun j hj=>HP.out j hj)
      go_wp2
      go_ret
      exact⟨rfl,n,rfl⟩
end Go.Proofs.YtdndeffmlhaipaaGreatDoor
