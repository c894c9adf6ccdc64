import Derived.Test.YtlcebdaghmdkeaaGreatDoorZ41
import Derived.Test.YtlcebdaghmdkeaaGreatDoorTpR
set_option linter.all false
set_option maxRecDepth 100000
set_option maxHeartbeats 64000000
namespace Go.Proofs.YtlcebdaghmdkeaaGreatDoor
open Go.Proofs.Tryz
open Go.RowKit
attribute [local go_sem↓] Go.wp_at_zero Go.wp_at_succ
attribute [local go_sem] field_code
def zO (x:Int×Int):Bool:=x.1== -1&& (x.2==0||decide (1073741824<x.2))
def p9 (ph:Int) (xs:List (Int×Int)) (k:Nat):Bool:=(ph==4)||(xs.take k).any zO
theorem afO {ph:Int} {xs:List (Int×Int)} {k:Nat} (h:k<xs.length):p9 ph xs (k+1)=(p9 ph xs k||zO (xs.getD k (0,0))):=by
 unfold p9;have e:xs.getD k (0,0)=xs[k]:=by simp [h]
 rw [List.take_succ_eq_append_getElem h,List.any_append,<-Bool.or_assoc,e];simp
theorem afP {ph:Int} {xs:List (Int×Int)} (h:p9 ph xs xs.length=false):ph≠4/\Bt xs:=by
 unfold p9 at h;rw [Bool.or_eq_false_iff,List.take_length] at h;refine⟨by simpa using h.1,fun x hx h1=> ?_⟩;have:=List.any_eq_false.1 h.2 x hx;simp only [zO,h1] at this;simp at this;omega
theorem afN (a:aq) (cap:Nat) (l:List Ac) (w:World) (hl:iU (fun b=>w.heap.size<=b) w) (cx:iJ l<=1048576) (hin:jL w (fun b=>b<w.heap.size) l a):
 Calls prog 7 #[.slice a l.length cap] w fun e w'=>e= .returned (.bool true)/\Ext w w':=by
 have Hl:=ae hl;have aJ:=ae hin;have hll:=Ff l;clear hl hin;go_enter func7,ntmps7;go_wp2_with fail;(refine(IU l a cap _ cx ((aJ.out.keep ((show Ext w _ from Xt).kept _)).mono fun b h=>by(try simp);omega) ((Hl.out.next ((show Ext w _ from Xt).upd _)).mono fun b h=>by(try simp at h);omega)).mono ?_);rintro e w2 ⟨P,r,rfl,hS,hP,h2⟩;have hx2:Ext w w2:=Xt;have hz2:=hx2.size;have iV:=Ok.BJ .new (l.take 100);have N3:=VC (l.take 100) .new (fun t ht=>by simp [cQ] at ht);have lf:(fq cQ (l.take 100)).acts<=100:=by rw [EM (by rw [List.length_take];omega),List.length_take];omega
 obtain⟨s,hs⟩:∃s,fq cQ (l.take 100)=s:=⟨_,rfl⟩;rw [hs] at hS iV lf N3;have HS:=ae (hS.mono fun b h=>(by have:=(hP b h).1;(try simp at this);omega:w.heap.size<=b));have dv:=ae iV;have Hsi:=ae N3;have BL:=ae lf;clear hS hP h2 hs iV lf N3;go_wp2_with fail;(refine(NJ _ r s _ (HS.out.ext Xt)).mono ?_);rintro e w3 ⟨rfl,rfl⟩;by_cases ht:274877906944<s.time
 ·go_wp2_with fail
  go_ret;exact⟨rfl,Xt⟩
 have hT:s.time<=274877906944:=by omega
 have HT:=ae hT;clear hT;go_wp2_with fail
 go_loopg [22] 10 (fun g i wr=>∃k:Nat,k<=10/\i= .int .i64 k/\g=10-k/\Hid (Sat wr (fun b=>w.heap.size<=b) r (j4 s k))/\Ext w wr)
 case atStart=>exact⟨0,by omega,rfl,rfl,ae (HS.out.ext Xt),Xt⟩
 case round=>
  clear HS hx2;obtain⟨k,hk,rfl,rfl,HS,hx⟩:=hrel;have uJ:=hx.size;by_cases hlt:k<10
  ·have KL:(k:Int)<10:=by omega
   go_wp2_with fail;(refine(sX (fun b=>w.heap.size<=b) r (j4 s k) vR _ (HS.out.ext Xt) (EU dv.out k).inv (Hl.out.next ((show Ext w _ from Xt).upd _)) (by decide) (by decide) (by decide)).mono ?_);rintro e w5 ⟨he,hs5,eW⟩;rw [afQ (by have:=BL.out;omega) HT.out hlt] at he;obtain rfl:e= .returned (.agg #[.int .i64 0, .int .i64 0, .string ⟨#[]⟩]):=he;have bG:Ext w w5:=aU.to (show Ext w _ from Xt) (eW.mono fun b h hp=>by omega)
   have H5:=ae (show Sat w5 (fun b=>w.heap.size<=b) r (j4 s (k+1)) from Sat.mono hs5 fun b h=>by
    rcases h with h|h
    ·exact h
    · (try simp at h);omega)
   clear hs5 eW hx HS;go_wp2_with fail;go_roundg (10-(k+1))
   case measure=>omega
   case rel=>exact⟨k+1,by omega,by go_num,rfl,ae (H5.out.ext Xt),Xt⟩
  ·obtain rfl:k=10:=by omega
   have hok:=EU dv.out 10;have hlen:=hok.len;have gG:=ae hok.inv;have tA:=ae (fun(t:Th) (hm:t∈ (j4 s 10).ay) (h4:t.st.ph≠4) (hp:Bt (fK (cy t.v)))=>afR dv.out Hsi.out (by have:=BL.out;omega) HT.out hm h4 hp);have uu:=ae (fun(t:Th) (hm:t∈ (j4 s 10).ay)=>(hok.ay t hm).spec);obtain⟨q,hq⟩:∃q,j4 s 10=q:=⟨_,rfl⟩;rw [hq] at HS hlen gG tA uu;clear hok hq;go_wp2_with fail;(refine(pK _ r q _ (HS.out.ext Xt) hlen (fun t ht=>by have h:=gG.out.size t ht;exact⟨h.1,h.2.1⟩)).mono ?_);rintro e w6 ⟨a2,c2,rfl,-,ET,h6⟩;have bS:Ext w w6:=Xt;have jP:=ae ET;clear h6 ET HS hx;go_wp2_with fail
   go_loopg [6,7,8,9,11,33] q.ay.length (fun g _ _ _ _ _ i wr=>∃k:Nat,k<=q.ay.length/\i= .int .i64 k/\g=q.ay.length-k/\Ext w6 wr)
   case atStart=>exact⟨0,by omega,rfl,rfl,Xt⟩
   case round=>
    obtain⟨k,hk,rfl,rfl,hx⟩:=hrel;obtain⟨wo,rfl⟩:∃x,x=wr:=⟨_,rfl⟩;by_cases hlt:k<q.ay.length
    ·obtain⟨b1,ka,kc,la,lc,oa,oc,rfl,hS1,hb1,hi1,d0,d1,d2,d3,d4,d5,d6,d7,d8,d9,d10,d11,d12,d13,d14⟩:=(jP.out.ext hx).cells hlt
     have mh:(0:Int)<= (k:Int):=by omega
     have ml:(k:Int)<(q.ay.length:Int):=by omega
     have rI:=ae (tA.out _ (List.getElem_mem hlt));have VD:=ae (uu.out _ (List.getElem_mem hlt));have hsz:=(gG.out.size _ (List.getElem_mem hlt)).1;obtain⟨z,tB⟩:∃z,q.ay[k]=z:=⟨_,rfl⟩;rw [tB] at d0 d1 d2 d3 d4 d5 d6 d7 d8 d9 d10 d11 d12 d13 d14 rI VD hsz hi1;have zN:=ae hi1;clear hi1 tB;go_upto_region 14 with fail
     refine aI (R:=fun wx=>fx wx wo.heap.size z ka kc la lc oa oc/\Ext wo wx) ⟨aR,Xt⟩ ?_;clear d0 d1 d2 d3 d4 d5 d6 d7 d8 d9 d10 d11 d12 d13 d14;rintro wb ⟨ag,aP⟩;obtain⟨hc0,aw,hl0⟩:=ag.see;go_wp2_with fail;(refine(Iz z.v ka kc la lc _ _ (by omega) (zN.out.v.ext Xt)).mono ?_);rintro e w7 hR;obtain⟨im,him⟩:∃im,kC (cy z.v)=im:=⟨_,rfl⟩;obtain⟨xs,hxs⟩:∃xs,fK (cy z.v)=xs:=⟨_,rfl⟩;have her:xw (cy z.v)=0:=by
      have:=VD.out
      cases hs:cy z.v with
      |none=>exact absurd hs this
      |some p=>rfl
     have G8:xs.length<=8:=by rw [<-hxs];exact IK z.v
     obtain⟨a1,n1,c1,he,az,lY,-,h7⟩:=uo.val hR;rw [him,her] at he;rw [hxs] at az lY;subst az he;have bR:Ext wo w7:=Xt;have ai:=af.ext (w':=w7) Xt ag;have Him:=ae him;have Hxs:=ae hxs;clear hR h7 hc0 aw hl0 ag aP him hxs her;obtain⟨hc1,aB,az⟩:=ai.see;go_upto_region 16 with fail
     refine aI (R:=fun wx=>fx wx wo.heap.size z ka kc la lc oa oc/\af wx w7.heap.size #[.string im, .slice a1 xs.length c1] 53/\StepsIn wx a1 xs/\Ext wo wx) ⟨aR,aR,lY.ext (show Ext w7 _ from Xt),(show Ext wo _ from Xt)⟩ ?_;clear ai lY hc1 aB az;rintro wd ⟨ag,ai,hst,iM⟩;have aQ:=ae hst;have jO:Ext w6 wd:=hx.trans iM;clear hst;obtain⟨hc0,aw,hl0⟩:=ag.see;obtain⟨hc1,aB,az⟩:=ai.see;go_wp2_with fail
     go_loopg [9,11,50] xs.length (fun g b _ i wx=>∃j:Nat,j<=xs.length/\i= .int .i64 j/\g=xs.length-j/\b= .bool (p9 z.st.ph xs j)/\fx wx wo.heap.size z ka kc la lc oa oc/\af wx w7.heap.size #[.string im, .slice a1 xs.length c1] 53/\Ext wd wx)
     case atStart=>exact⟨0,by omega,rfl,rfl,by simp [p9],aR,aR,Xt⟩
     case round=>
      clear hc0 aw hl0 hc1 aB az ag ai;obtain⟨j,hj,rfl,rfl,rfl,ag,ai,xy⟩:=hrel;have cX:Ext w6 wr:=jO.trans xy;by_cases hjl:j<xs.length
      ·obtain⟨b2,o2,rfl,hst⟩:=aQ.out.resolve_left (by intro h;rw [h] at hjl;simp at hjl)
       have e0:=xy.cell (hst j hjl).1;have e1:=xy.cell (hst j hjl).2;have aeO:(0:Int)<= (j:Int):=by omega
       have aeP:(j:Int)<(xs.length:Int):=by omega
       have hws:=afO (ph:=z.st.ph) hjl;obtain⟨⟨p1,p2⟩,hp⟩:∃p,xs.getD j (0,0)=p:=⟨_,rfl⟩;rw [hp] at e0 e1 hws;have BQ:=ae hws;obtain⟨bw,dY⟩:∃b,p9 z.st.ph xs j=b:=⟨_,rfl⟩;rw [dY] at BQ⊢;clear hst hp hws dY;go_upto_region 19 with fail
       refine aI (R:=fun wx=>fx wx wo.heap.size z ka kc la lc oa oc/\af wx w7.heap.size #[.string im, .slice (some ⟨b2,o2,none⟩) xs.length c1] 53/\af wx wr.heap.size #[.int .i64 p1, .int .i64 p2] 57/\Ext wd wx) ⟨aR,aR,aR,Xt⟩ ?_;clear ag ai e0 e1;rintro wf ⟨ag,ai,ak,Eu⟩;obtain⟨hc2,hf2,hl2⟩:=ak.see
       cases bw with
       |true=>
        go_wp2_with fail;go_roundg (xs.length-(j+1))
        case measure=>omega
        case rel=>exact⟨j+1,by omega,by go_num,rfl,by rw [BQ.out];rfl,aR,aR,Xt⟩
       |false=>
        by_cases h1:p1= -1
        ·have q1:(p1== -1)=true:=by simpa using h1
         clear h1;by_cases h2:p2=0
         ·have q2:(p2==0)=true:=by simpa using h2
          have zP:=ae (show p9 z.st.ph xs (j+1)=true by rw [BQ.out];simp [zO,q1,q2]);clear h2;go_wp2_with fail;go_roundg (xs.length-(j+1))
          case measure=>omega
          case rel=>exact⟨j+1,by omega,by go_num,rfl,by rw [zP.out],aR,aR,Xt⟩
         ·have q2:(p2==0)=false:=by simpa using h2
          clear h2;by_cases h3:1073741824<p2
          ·have zP:=ae (show p9 z.st.ph xs (j+1)=true by rw [BQ.out];simp [zO,q1,q2,h3])
           go_wp2_with fail;go_roundg (xs.length-(j+1))
           case measure=>omega
           case rel=>exact⟨j+1,by omega,by go_num,rfl,by rw [zP.out],aR,aR,Xt⟩
          ·have zP:=ae (show p9 z.st.ph xs (j+1)=false by rw [BQ.out];simp [zO,q1,q2,h3])
           go_wp2_with fail;go_roundg (xs.length-(j+1))
           case measure=>omega
           case rel=>exact⟨j+1,by omega,by go_num,rfl,by rw [zP.out],aR,aR,Xt⟩
        ·have q1:(p1== -1)=false:=by simpa using h1
         have zP:=ae (show p9 z.st.ph xs (j+1)=false by rw [BQ.out];simp [zO,q1]);clear h1;go_wp2_with fail;go_roundg (xs.length-(j+1))
         case measure=>omega
         case rel=>exact⟨j+1,by omega,by go_num,rfl,by rw [zP.out],aR,aR,Xt⟩
      ·obtain rfl:j=xs.length:=by omega
       obtain⟨hc0,aw,hl0⟩:=ag.see;obtain⟨hc1,aB,az⟩:=ai.see
       cases dY:p9 z.st.ph xs xs.length with
       |true=>
        clear dY;go_wp2_with fail;go_roundg (q.ay.length-(k+1))
        case measure=>omega
        case rel=>exact⟨k+1,by omega,by go_num,rfl,Xt⟩
       |false=>
        obtain⟨h4,hp⟩:=afP dY;obtain⟨g1,g2⟩:=rI.out h4 (by rw [Hxs.out];exact hp);rw [Him.out] at g2;have r1:(z.st.ph !=1)=false:=by simpa using g1
        have r2:=qA g2;clear dY h4 hp g1 g2;go_wp2_with fail;go_roundg (q.ay.length-(k+1))
        case measure=>omega
        case rel=>exact⟨k+1,by omega,by go_num,rfl,Xt⟩
    ·go_wp2_with fail
     go_ret;exact⟨rfl,bS.trans Xt⟩
end Go.Proofs.YtlcebdaghmdkeaaGreatDoor
