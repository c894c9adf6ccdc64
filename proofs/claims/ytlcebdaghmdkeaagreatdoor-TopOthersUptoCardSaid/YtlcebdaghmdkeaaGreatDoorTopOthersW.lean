import Derived.Test.YtlcebdaghmdkeaaGreatDoorZ41
set_option linter.all false
set_option maxRecDepth 100000
set_option maxHeartbeats 64000000
namespace Go.Proofs.YtlcebdaghmdkeaaGreatDoor
open Go.Proofs.Tryz
open Go.RowKit
attribute [local go_sem↓] Go.wp_at_zero Go.wp_at_succ
theorem afG (s s':Sv) (x:Ac) (y:Rp) (P T:aA) (r:Nat) (wa:aq) (wc:Nat) (w:World) (hok:Ok s) (nE:Ok s') (hst:Step s x s' y) (hS:Sat w P r s') (hT:fT w T s.ay wa):
 Calls prog 17 #[.pointer (some ⟨r,0,none⟩), .slice wa s.ay.length wc, .agg #[.int .i64 x.k, .string x.name, .string x.who, .string x.body, .int .i64 x.ver, .int .i64 x.n, .int .i64 x.ord, .bool x.force],y.val] w fun e w2=>e= .returned (.bool true)/\Ext w w2:=by
 have gG:=ae hok.inv;have NW:=ae nE.inv;have hlen:=hok.len;have hlen':=nE.len;have hle:=afH hst;have tA:=ae (fun(h8:x.k≠8) (o:Th) (hm:o∈s.ay)=>afI hok hst h8 hm);have HS:=ae hS;have HT:=ae hT;obtain⟨c,n,b⟩:=y;clear hok nE hst hS hT;go_enter func17,ntmps17;go_upto_region 1 with fail
 refine aI (R:=fun wx=>kY wx w.heap.size x/\af wx (w.heap.size+1) #[.int .i64 c, .int .i64 n, .string b] 34/\Ext w wx) ⟨aR,aR,Xt⟩ ?_;rintro wa1 ⟨ag,ai,aF⟩;have hz1:=ai.lt;obtain⟨hc0,aw,hl0⟩:=ag.see;by_cases ES:x.k=8
 ·have hkb:(x.k==8)=true:=by simpa using ES
  clear ES;go_wp2_with fail;go_ret;exact⟨rfl,Xt⟩
 have hkb:(x.k==8)=false:=by simpa using ES
 have Hk8:=ae ES;clear ES;go_wp2_with fail;(refine(pK P r s' _ (HS.out.ext Xt) hlen' (fun t ht=>by have h:=NW.out.size t ht;exact⟨h.1,h.2.1⟩)).mono ?_);rintro e w2 ⟨a2,c2,rfl,-,ET,h2⟩;have hx2:Ext w w2:=Xt;have xN:=af.ext (w':=w2) Xt ag;have vQ:=af.ext (w':=w2) Xt ai;have afJ:=ae ET;have hz2:w.heap.size+1<w2.heap.size:=vQ.lt;clear h2 hc0 aw hl0 ag ai aF ET HS;go_wp2_with fail
 go_loopg [11,12,13,21] s.ay.length (fun g _ _ _ i wr=>∃k:Nat,k<=s.ay.length/\i= .int .i64 k/\g=s.ay.length-k/\kY wr w.heap.size x/\af wr (w.heap.size+1) #[.int .i64 c, .int .i64 n, .string b] 34/\Ext w2 wr)
 case atStart=>exact⟨0,by omega,rfl,rfl,aR,aR,Xt⟩
 case round=>
  clear xN vQ;obtain⟨k,hk,rfl,rfl,ag,ai,hx⟩:=hrel;have uJ:=hx.size;by_cases hlt:k<s.ay.length
  ·obtain⟨b1,ka,kc,la,lc,oa,oc,rfl,hS1,hb1,hi1,d0,d1,d2,d3,d4,d5,d6,d7,d8,d9,d10,d11,d12,d13,d14⟩:=HT.out.cells hlt
   have kT:Ext w wr:=hx2.trans hx;have d0:=kT.cell d0;have d1:=kT.cell d1;have d2:=kT.cell d2;have d3:=kT.cell d3;have d4:=kT.cell d4;have d5:=kT.cell d5;have d6:=kT.cell d6;have d7:=kT.cell d7;have d8:=kT.cell d8;have d9:=kT.cell d9;have d10:=kT.cell d10;have d11:=kT.cell d11;have d12:=kT.cell d12;have d13:=kT.cell d13;have d14:=kT.cell d14;have mh:(0:Int)<= (k:Int):=by omega
   have ml:(k:Int)<(s.ay.length:Int):=by omega
   have rI:=ae (tA.out Hk8.out _ (List.getElem_mem hlt));have hsz:=gG.out.size _ (List.getElem_mem hlt);obtain⟨z,tB⟩:∃z,s.ay[k]=z:=⟨_,rfl⟩;rw [tB] at d0 d1 d2 d3 d4 d5 d6 d7 d8 d9 d10 d11 d12 d13 d14 hi1 rI hsz;have zN:=ae (hi1.ext kT);have wW:=ae hsz;clear hi1 tB hsz;go_upto_region 7 with fail
   refine aI (R:=fun wx=>kY wx w.heap.size x/\af wx (w.heap.size+1) #[.int .i64 c, .int .i64 n, .string b] 34/\fx wx wr.heap.size z ka kc la lc oa oc/\Ext wr wx) ⟨aR,aR,aR,Xt⟩ ?_;clear ag ai d0 d1 d2 d3 d4 d5 d6 d7 d8 d9 d10 d11 d12 d13 d14;rintro wb ⟨ag,ai,ak,aP⟩;obtain⟨hc2,hf2,hl2⟩:=ak.see;go_wp2_with fail;(refine(NR s'.ay a2 _ c2 z.name _ _ (afJ.out.ext Xt) rfl (by omega)).mono ?_);rintro e w3 ⟨h3,EN⟩;have hx3:Ext wr w3:=Xt;have xN:=af.ext (w':=w3) Xt ag;have vQ:=af.ext (w':=w3) Xt ai;have hB2':=af.ext (w':=w3) Xt ak;clear h3 hc2 hf2 hl2 ag ai ak aP;rcases EN with⟨t,kb,kd,lb,ld,ob,od,hf,rfl,bj⟩|⟨hf,rfl⟩
   ·have Hf:=ae hf
    have bN:=ae bj;clear hf bj;go_upto_region 8 with fail
    refine aI (R:=fun wx=>kY wx w.heap.size x/\af wx (w.heap.size+1) #[.int .i64 c, .int .i64 n, .string b] 34/\fx wx wr.heap.size z ka kc la lc oa oc/\fx wx w3.heap.size t kb kd lb ld ob od/\Ext w3 wx) ⟨aR,aR,aR,aR,Xt⟩ ?_;clear xN vQ hB2';rintro wd ⟨ag,ai,ak,bK,iM⟩;obtain⟨hc0,aw,hl0⟩:=ag.see;obtain⟨hc1,aB,az⟩:=ai.see;obtain⟨hc2,hf2,hl2⟩:=ak.see;obtain⟨hc3,hf3,aS⟩:=bK.see;by_cases he:z.name=x.name
    ·have hb:=qA he
     clear he;go_wp2_with fail;go_roundg (s.ay.length-(k+1))
     case measure=>omega
     case rel=>exact⟨k+1,by omega,by go_num,rfl,aR,aR,Xt⟩
    ·have hb:=tP he
     obtain rfl:t=z:=by have:=rI.out.1 he;rw [Hf.out] at this;exact Option.some.inj this
     clear he;go_wp2_with fail;(refine(Vy t ka kc la lc oa oc kb kd lb ld ob od _ _ _ (zN.out.ext Xt) (bN.out.ext Xt) (by have:=wW.out.1;omega) (by have:=wW.out.2.1;omega)).mono ?_);rintro e w4 ⟨rfl,h4⟩;have bX:Ext w2 w4:=Xt;have xN:=af.ext (w':=w4) Xt ag;have vQ:=af.ext (w':=w4) Xt ai;clear h4 hc0 aw hl0 hc1 aB az hc2 hf2 hl2 hc3 hf3 aS ag ai ak bK;go_wp2_with fail;go_roundg (s.ay.length-(k+1))
     case measure=>omega
     case rel=>exact⟨k+1,by omega,by go_num,rfl,aR,aR,Xt⟩
   ·have he:z.name=x.name:=Classical.byContradiction fun he=>by have:=rI.out.1 he;rw [hf] at this;cases this
    obtain⟨h6,h0⟩:=rI.out.2 hf;have A2:(x.k !=6)=false:=by simpa using h6
    have rX:(c !=0)=false:=by simpa using h0
    have hb:=qA he;clear he h6 h0 hf;go_upto_region 8 with fail
    refine aI (R:=fun wx=>kY wx w.heap.size x/\af wx (w.heap.size+1) #[.int .i64 c, .int .i64 n, .string b] 34/\fx wx wr.heap.size z ka kc la lc oa oc/\Ext w3 wx) ⟨aR,aR,aR,Xt⟩ ?_;clear xN vQ hB2';rintro wd ⟨ag,ai,ak,iM⟩;obtain⟨hc0,aw,hl0⟩:=ag.see;obtain⟨hc1,aB,az⟩:=ai.see;obtain⟨hc2,hf2,hl2⟩:=ak.see;go_wp2_with fail;go_roundg (s.ay.length-(k+1))
    case measure=>omega
    case rel=>exact⟨k+1,by omega,by go_num,rfl,aR,aR,Xt⟩
  ·have hfin:(s'.ay.length:Int)<= (s.ay.length:Int)+1:=by omega
   go_wp2_with fail;go_ret;exact⟨rfl,hx2.trans Xt⟩
theorem afF (a:aq) (cap:Nat) (l:List Ac) (w:World) (hl:iU (fun b=>w.heap.size<=b) w) (cx:iJ l<=1048576) (hin:jL w (fun b=>b<w.heap.size) l a):
 Calls prog 5 #[.slice a l.length cap] w fun e w'=>e= .returned (.bool true)/\Ext w w':=by
 have Hl:=ae hl;have aJ:=ae hin;clear hl hin;go_enter func5,ntmps5;go_wp2_with fail;(refine(NY 17 l a cap _ cx ((aJ.out.keep ((show Ext w _ from Xt).kept _)).mono fun b h=>by(try simp);omega) ((Hl.out.next ((show Ext w _ from Xt).upd _)).mono fun b h=>by(try simp at h);omega) (enters_of func17 (by kernel_rfl) rfl) ?_).mono ?_)
 ·intro k hk s s' y P T r wa wc w1 afE hok nE hst ql hx hS hsl hT
  have hlx:=Jz (List.getElem_mem hk);unfold Ac.size at hlx;exact afG s s' l[k] y P T r wa wc w1 hok nE hst hS hT
 ·rintro e w2 ⟨P,r,rfl,-,-,h2⟩
  go_wp2_with fail;go_ret;exact⟨rfl,Xt⟩
end Go.Proofs.YtlcebdaghmdkeaaGreatDoor
