/- Two paths of the same digests are alike, by the law's own words. No condition. -/
import Derived.Test.YtahenngmaoellaaGreatC40
import Derived.BigQuiet
import Derived.Deep.QuietTactic
set_option linter.all false
set_option maxRecDepth 100000
set_option maxHeartbeats 8000000
namespace Go.Proofs.YtahenngmaoellaaGreat
open Go.ChangeShapes Go.WideShapes Go.ChangeAt Go.RowKit Go.Joins Go.Shelf Go.Maps
open Go.Lib (hid)
attribute [local go_sem] Oper.semAt_some
theorem qgH (zs:List Int)(u v:Value)(w:World)(hu:Holds8 w u zs)(hv:Holds8 w v zs)(hl:zs.length≤1099511627776):
    Calls Tryz.prog 77 #[u,v] w fun e w'=>e= .returned (.bool true)∧ ∃m,w'=w.drewN m:=by
  obtain⟨a,cap,rfl,h⟩:=hu;obtain⟨a',cap',rfl,h'⟩:=hv;by_cases h0:zs=[]
  · subst h0
    clear h h';go_enter Tryz.func77,Tryz.ntmps77
    go_wp2_with fail
    go_loopw [5] (fun i wr=>i= .int .i64 0∧w=wr) (fun _ _=>0)
    case atStart=>exact⟨rfl,rfl⟩
    case round=>
      obtain⟨rfl,rfl⟩:=hrel;go_wp2
      go_ret
      exact⟨rfl,0,rfl⟩
  · obtain⟨b,off,rfl,hb1,hb2⟩:=h.resolve_left h0
    obtain⟨b',off',rfl,hb1',hb2'⟩:=h'.resolve_left h0;have H2:=hid hb2;have H2':=hid hb2';clear h h' hb2 hb2';go_enter Tryz.func77,Tryz.ntmps77
    go_wp2_with fail
    go_loopw [5] (fun i wr=> ∃(k n:Nat),i= .int .i64 k∧k≤zs.length∧wr=w.drewN n) (fun i _=>zs.length - (intOf i).toNat)
    case atStart=>exact⟨0,0,rfl,Nat.zero_le _,rfl⟩
    case round=>
      obtain⟨k,n,rfl,hk,rfl⟩:=hrel;by_cases hlt:k<zs.length
      · have e1:w.cell? ⟨b,off+k,none⟩=some (.int .u8 (qn zs k)):=H2.out k hlt
        have e2:w.cell? ⟨b',off'+k,none⟩=some (.int .u8 (qn zs k)):=H2'.out k hlt;go_wp2
        go_quiet (fail)
        go_wp2
        exact⟨⟨k+1,n+nq,by go_num,by omega,rfl⟩,by simp[intOf];omega⟩
      · obtain rfl:k=zs.length:=by omega
        go_wp2
        go_ret
        exact⟨rfl,n,rfl⟩
theorem qdG (zs:List Int)(u v:Value)(w:World)(hu:Holds8 w u zs)(hv:Holds8 w v zs)(hl:zs.length≤1099511627776):
    Calls Tryz.prog 37 #[u,v] w fun e w'=>e= .returned (.bool true)∧ ∃m,w'=w.drewN m:=by
  have H:=hid (qgH zs u v w hu hv hl);clear hu hv;go_enter Tryz.func37,Tryz.ntmps37
  go_wp2_with fail
  refine H.out.mono ?_;rintro e w1 ⟨rfl,m,rfl⟩;go_wp2
  go_ret
  exact⟨rfl,m,rfl⟩
end Go.Proofs.YtahenngmaoellaaGreat
