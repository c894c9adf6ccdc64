import Derived.Test.YtlcebdaghmdkeaaGreatDoorZ41
set_option linter.all false
set_option maxRecDepth 100000
set_option maxHeartbeats 64000000
namespace Go.Proofs.YtlcebdaghmdkeaaGreatDoor
open Go.Proofs.Tryz
open Go.RowKit
attribute [local go_sem↓] Go.wp_at_zero Go.wp_at_succ
theorem afC (s s':Sv) (x:Ac) (y:Rp) (P T:aA) (r:Nat) (wa:aq) (wc:Nat) (w:World) (hok:Ok s) (nE:Ok s') (hst:Step s x s' y) (ql:s.acts<300) (hS:Sat w P r s') (hT:fT w T s.ay wa):
 Calls prog 15 #[.pointer (some ⟨r,0,none⟩), .slice wa s.ay.length wc, .agg #[.int .i64 x.k, .string x.name, .string x.who, .string x.body, .int .i64 x.ver, .int .i64 x.n, .int .i64 x.ord, .bool x.force],y.val] w fun e w2=>e= .returned (.bool true)/\Ext w w2:=by
 have gG:=ae hok.inv;have NW:=ae nE.inv;have hlen:=hok.len;have tA:=ae (afD hok.dO ql hst);have HS:=ae hS;have HT:=ae hT;obtain⟨c,n,b⟩:=y;clear hok nE hst hS hT;go_enter func15,ntmps15;go_upto_region 1 with fail
 refine aI (R:=fun wx=>kY wx w.heap.size x/\af wx (w.heap.size+1) #[.int .i64 c, .int .i64 n, .string b] 34/\Ext w wx) ⟨aR,aR,Xt⟩ ?_;rintro wa1 ⟨ag,ai,aF⟩;obtain⟨hc0,aw,hl0⟩:=ag.see;go_wp2_with fail;(refine(NR s.ay wa _ wc x.name T _ (HT.out.ext Xt) rfl (by omega)).mono ?_);rintro e w2 ⟨h2,EN⟩;have hx2:Ext w w2:=Xt;have xN:=af.ext (w':=w2) Xt ag;have vQ:=af.ext (w':=w2) Xt ai;clear h2 hc0 aw hl0 ag ai aF;rcases EN with⟨t,ka,kc,la,lc,oa,oc,hf,rfl,-⟩|⟨hf,rfl⟩
 ·have Hf:=ae hf
  clear hf;go_upto_region 2 with fail
  refine aI (R:=fun wx=>kY wx w.heap.size x/\af wx (w.heap.size+1) #[.int .i64 c, .int .i64 n, .string b] 34/\fx wx w2.heap.size t ka kc la lc oa oc/\Ext w wx) ⟨aR,aR,aR,Xt⟩ ?_;clear xN vQ hx2;rintro wb ⟨ag,ai,ak,aP⟩;obtain⟨hc0,aw,hl0⟩:=ag.see;obtain⟨hc1,aB,az⟩:=ai.see;obtain⟨hc2,hf2,hl2⟩:=ak.see;by_cases hk1:x.k<2
  ·have hcb:(c !=7)=true:=by have:=tA.out.2 (fun h=>by have:=h.1;omega);simpa using this
   go_wp2_with fail;go_ret;exact⟨rfl,Xt⟩
  by_cases hk2:4<x.k
  ·have hcb:(c !=7)=true:=by have:=tA.out.2 (fun h=>by have:=h.2.1;omega);simpa using this
   go_wp2_with fail;go_ret;exact⟨rfl,Xt⟩
  by_cases hv0:x.ver=0
  ·have hcb:(c !=7)=true:=by
    have:=tA.out.2 (fun h=>by obtain⟨-,-,u,hu,h0,h1⟩:=h;exact h0 hv0);simpa using this
   have hvb:(x.ver==0)=true:=by simpa using hv0
   clear hv0;go_wp2_with fail;go_ret;exact⟨rfl,Xt⟩
  have hvb:(x.ver==0)=false:=by simpa using hv0
  by_cases hv1:x.ver=t.ver
  ·have hcb:(c !=7)=true:=by
    have:=tA.out.2 (fun h=>by obtain⟨-,-,u,hu,h0,h1⟩:=h;rw [Hf.out] at hu;cases hu;exact h1 hv1);simpa using this
   have hvc:(x.ver==t.ver)=true:=by simpa using hv1
   clear hv0 hv1;go_wp2_with fail;go_ret;exact⟨rfl,Xt⟩
  have hvc:(x.ver==t.ver)=false:=by simpa using hv1
  obtain⟨fh,o9⟩:=tA.out.1 ⟨by omega,by omega,t,Hf.out,hv0,hv1⟩;have hcb:(c==7)=true:=by simpa using fh
  have ER:=ae o9;clear hv0 hv1 fh o9;go_wp2_with fail;(refine(pK P r s' _ (HS.out.ext Xt) (by rw [ER.out];exact hlen) (fun t ht=>by have h:=NW.out.size t ht;exact⟨h.1,h.2.1⟩)).mono ?_);rw [ER.out];rintro e w6 ⟨a6,c6,rfl,gT,mO,h6⟩;have bS:Ext w w6:=Xt;have p8:=ae mO;clear gT mO h6;go_wp2_with fail;(refine(BK s.ay wa a6 _ _ wc c6 _ _ _ (HT.out.ext Xt) (p8.out.ext Xt) rfl rfl (by omega) (fun t ht=>by have h:=gG.out.size t ht;exact⟨h.1,h.2.1⟩)).mono ?_);rintro e w7 ⟨rfl,h7⟩;go_wp2_with fail;go_ret;exact⟨rfl,Xt⟩
 ·have Hf:=ae hf
  clear hf;have hcb:(c !=7)=true:=by have:=tA.out.2 (fun h=>by obtain⟨-,-,u,hu,h0,h1⟩:=h;rw [Hf.out] at hu;cases hu);simpa using this
  go_upto_region 2 with fail
  refine aI (R:=fun wx=>kY wx w.heap.size x/\af wx (w.heap.size+1) #[.int .i64 c, .int .i64 n, .string b] 34/\Ext w wx) ⟨aR,aR,Xt⟩ ?_;clear xN vQ hx2;rintro wb ⟨ag,ai,aP⟩;obtain⟨hc0,aw,hl0⟩:=ag.see;obtain⟨hc1,aB,az⟩:=ai.see;by_cases hk1:x.k<2
  ·go_wp2_with fail
   go_ret;exact⟨rfl,Xt⟩
  by_cases hk2:4<x.k
  ·go_wp2_with fail
   go_ret;exact⟨rfl,Xt⟩
  go_wp2_with fail;go_ret;exact⟨rfl,Xt⟩
theorem afB (a:aq) (cap:Nat) (l:List Ac) (w:World) (hl:iU (fun b=>w.heap.size<=b) w) (cx:iJ l<=1048576) (hin:jL w (fun b=>b<w.heap.size) l a):
 Calls prog 4 #[.slice a l.length cap] w fun e w'=>e= .returned (.bool true)/\Ext w w':=by
 have Hl:=ae hl;have aJ:=ae hin;clear hl hin;go_enter func4,ntmps4;go_wp2_with fail;(refine(NY 15 l a cap _ cx ((aJ.out.keep ((show Ext w _ from Xt).kept _)).mono fun b h=>by(try simp);omega) ((Hl.out.next ((show Ext w _ from Xt).upd _)).mono fun b h=>by(try simp at h);omega) (enters_of func15 (by kernel_rfl) rfl) ?_).mono ?_)
 ·intro k hk s s' y P T r wa wc w1 afE hok nE hst ql hx hS hsl hT
  have hlx:=Jz (List.getElem_mem hk);unfold Ac.size at hlx;exact afC s s' l[k] y P T r wa wc w1 hok nE hst (by omega) hS hT
 ·rintro e w2 ⟨P,r,rfl,-,-,h2⟩
  go_wp2_with fail;go_ret;exact⟨rfl,Xt⟩
end Go.Proofs.YtlcebdaghmdkeaaGreatDoor
