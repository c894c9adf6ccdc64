import Derived.Test.YtlcebdaghmdkeabGreatDoorZ45
set_option linter.all false
set_option maxRecDepth 100000
set_option maxHeartbeats 64000000
namespace Go.Proofs.YtlcebdaghmdkeabGreatDoor
open Go.Proofs.Tryz
open Go.RowKit
attribute [local go_sem↓] Go.wp_at_zero Go.wp_at_succ
theorem VW {a b c d:List UInt8} (h:a=b\/a=c) (e:d=c) (q:(!a==b)=true/\ (!a==d)=true):False:=by
 rcases h with h|h
 ·rw [h] at q;simp at q
 ·rw [e,h] at q;simp at q
theorem afT (s s':Sv) (x:Ac) (y:Rp) (P T:az) (r:Nat) (wa:au) (wc:Nat) (w:World) (hok:Ok s) (fL:Ok s') (hst:Step s x s' y) (hS:Sat w P r s') (hT:jk w T s.ax wa):
 Calls prog 10 #[.pointer (some ⟨r,0,none⟩), .slice wa s.ax.length wc, .agg #[.int .i64 x.k, .string x.name, .string x.who, .string x.body, .int .i64 x.ver, .int .i64 x.n, .int .i64 x.ord, .bool x.force],y.val] w fun e w2=>e= .returned (.bool true)/\Ext w w2:=by
 have tF:=ae fL.inv;have hlen:=hok.len;have hlen':=fL.len;have BO:=ae (fun(o:Th) (hm:o∈s'.ax)=>afU hok hst hm);have HS:=ae hS;have HT:=ae hT;obtain⟨c,n,b⟩:=y;clear hok fL hst hS hT;go_enter func10,ntmps10;go_wp2_with fail;(refine(zR P r s' _ (HS.out.ext Xt) hlen' (fun t ht=>by have h:=tF.out.size t ht;exact⟨h.1,h.2.1⟩)).mono ?_);rintro e w2 ⟨a2,c2,rfl,-,ye,h2⟩;have hx2:Ext w w2:=Xt;have BU:=ae ye;clear h2 ye HS;go_wp2_with fail
 go_loopg [10,11,12,13,14,18] s'.ax.length (fun g _ _ _ _ _ i wr=>∃k:Nat,k<=s'.ax.length/\i= .int .i64 k/\g=s'.ax.length-k/\Ext w2 wr)
 case atStart=>exact⟨0,by omega,rfl,rfl,Xt⟩
 case round=>
  obtain⟨k,hk,rfl,rfl,hx⟩:=hrel;by_cases hlt:k<s'.ax.length
  ·obtain⟨b1,ka,kc,la,lc,oa,oc,rfl,hS1,hb1,hi1,d0,d1,d2,d3,d4,d5,d6,d7,d8,d9,d10,d11,d12,d13,d14⟩:=(BU.out.ext hx).cells hlt
   have kY:(0:Int)<= (k:Int):=by omega
   have kZ:(k:Int)<(s'.ax.length:Int):=by omega
   have nO:=ae (BO.out _ (List.getElem_mem hlt));obtain⟨z,tG⟩:∃z,s'.ax[k]=z:=⟨_,rfl⟩;rw [tG] at d0 d1 d2 d3 d4 d5 d6 d7 d8 d9 d10 d11 d12 d13 d14 nO;have hk1:k+1<=s'.ax.length:=hlt;have yf:s'.ax.length-(k+1)<s'.ax.length-k:=by omega
   clear hi1 tG;go_upto_region 5 with fail
   refine aI (R:=fun wx=>fu wx wr.heap.size z ka kc la lc oa oc/\af wx (wr.heap.size+1) #[.string z.st.sb, .string z.st.cm, .int .i64 z.st.ph, .int .i64 z.st.sp, .int .i64 z.st.wt, .int .i64 z.st.si] 39/\Ext wr wx) ⟨aQ,aQ,Xt⟩ ?_;clear d0 d1 d2 d3 d4 d5 d6 d7 d8 d9 d10 d11 d12 d13 d14;rintro wb ⟨ag,ai,aO⟩;obtain⟨hc0,aw,hl0⟩:=ag.see;obtain⟨hc1,aA,ay⟩:=ai.see
   go_cut [62] (fun s wx=>s= .bool false/\wb=wx)
   case first=>
    obtain⟨⟨q0,q1,q2,q3,q4⟩,-⟩:=nO.out;have r0:¬z.st.wt<0:=by omega
    have r1:¬100<z.st.wt:=by omega
    by_cases hp1:z.st.ph=1
    ·have e1:(z.st.ph==1)=true:=by simpa using hp1
     have e2:(z.st.wt !=100)=false:=by have:=q2 hp1;simp [this]
     have e3:(z.st.ph==4)=false:=by rw [hp1];rfl
     have e4:=qL (q4.1 hp1);clear hp1 q2 q3 q4 q0 q1;go_wp2_with fail
     go_meet
     exact⟨rfl,rfl⟩
    ·have e1:(z.st.ph==1)=false:=by simpa using hp1
     have e4:=qM (fun e=>hp1 (q4.2 e));by_cases xZ:z.st.ph=4
     ·have e3:(z.st.ph==4)=true:=by simpa using xZ
      have e2:(z.st.wt !=0)=false:=by have:=q3 xZ;simp [this]
      clear hp1 xZ q2 q3 q4 q0 q1;go_wp2_with fail
      go_meet
      exact⟨rfl,rfl⟩
     ·have e3:(z.st.ph==4)=false:=by simpa using xZ
      clear hp1 xZ q2 q3 q4 q0 q1;go_wp2_with fail
      go_meet
      exact⟨rfl,rfl⟩
   case rest=>
    obtain⟨rfl,rfl⟩:=hcut;go_wp2_with fail;(refine(BQ s.ax wa _ wc z.name T _ (HT.out.ext (hx2.trans Xt)) rfl (by omega)).mono ?_);rintro e w3 ⟨h3,oQ⟩;have hx3:Ext wr w3:=Xt;have afV:=af.ext (w':=w3) Xt ag;have afW:=af.ext (w':=w3) Xt ai;clear h3 hc0 aw hl0 hc1 aA ay ag ai aO;rcases oQ with⟨u,kb,kd,lb,ld,ob,od,hf,rfl,-⟩|⟨hf,rfl⟩
    ·have hu:=nO.out.2 u hf
     have Hu1:=ae (show z.st.cm.toList=u.st.cm.toList->¬z.st.ph=1->¬z.st.ph=4->u.st.sp<=z.st.sp from fun e=>hu.1 (EU e));have VX:=ae (show z.st.sb.toList=u.st.sb.toList\/z.st.sb.toList=z.st.cm.toList from hu.2.imp (fun e=>by rw [e]) (fun e=>by rw [e]));clear hu;clear hf;go_upto_region 8 with fail
     refine aI (R:=fun wx=>fu wx wr.heap.size z ka kc la lc oa oc/\af wx (wr.heap.size+1) #[.string z.st.sb, .string z.st.cm, .int .i64 z.st.ph, .int .i64 z.st.sp, .int .i64 z.st.wt, .int .i64 z.st.si] 39/\fu wx w3.heap.size u kb kd lb ld ob od/\Ext wr wx) ⟨aQ,aQ,aQ,Xt⟩ ?_;clear afV afW hx3;rintro wd ⟨ag,ai,aV,dG⟩;have iL:Ext w2 wd:=hx.trans dG;obtain⟨hc1,aA,ay⟩:=ai.see;obtain⟨hc3,hf3,aR⟩:=aV.see;go_wp2_with fail
     all_goals first
      |(go_roundg (s'.ax.length-(k+1))
        case measure=>exact yf
        case rel=>exact⟨k+1,hk1,by go_num,rfl,iL⟩)
      |(exfalso
        first
         |(refine absurd (Hu1.out ?_ ?_ ?_) ?_
           first|assumption|(symm;assumption)
           focus assumption
           focus assumption
           focus omega)
         |(refine VW (d:=z.st.cm.toList) VX.out rfl ?_
           assumption)
         |(refine VW (d:=u.st.cm.toList) VX.out ?_ ?_
           first|assumption|(symm;assumption)
           focus assumption))
    ·go_wp2_with fail
     go_roundg (s'.ax.length-(k+1))
     case measure=>omega
     case rel=>exact⟨k+1,by omega,by go_num,rfl,Xt⟩
  ·go_wp2_with fail
   go_ret;exact⟨rfl,hx2.trans Xt⟩
theorem afS (a:au) (cap:Nat) (l:List Ac) (w:World) (hl:jl (fun b=>w.heap.size<=b) w) (cX:j3 l<=1048576) (hin:gI w (fun b=>b<w.heap.size) l a):
 Calls prog 3 #[.slice a l.length cap] w fun e w'=>e= .returned (.bool true)/\Ext w w':=by
 have Hl:=ae hl;have aJ:=ae hin;clear hl hin;go_enter func3,ntmps3;go_wp2_with fail;(refine(N4 10 l a cap _ cX ((aJ.out.keep ((show Ext w _ from Xt).kept _)).mono fun b h=>by(try simp);omega) ((Hl.out.next ((show Ext w _ from Xt).upd _)).mono fun b h=>by(try simp at h);omega) (enters_of func10 (by kernel_rfl) rfl) ?_).mono ?_)
 ·intro k hk s s' y P T r wa wc w1 N5 hok fL hst rP hx hS hsl hT
  have hlx:=Az (List.getElem_mem hk);unfold Ac.size at hlx;exact afT s s' l[k] y P T r wa wc w1 hok fL hst hS hT
 ·rintro e w2 ⟨P,r,rfl,-,-,h2⟩
  go_wp2_with fail;go_ret;exact⟨rfl,Xt⟩
end Go.Proofs.YtlcebdaghmdkeabGreatDoor
