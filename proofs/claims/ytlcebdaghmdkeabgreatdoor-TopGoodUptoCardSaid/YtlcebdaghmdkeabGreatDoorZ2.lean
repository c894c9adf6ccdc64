import Derived.Deep.DeepCutAuto
import Derived.Test.YtlcebdaghmdkeabGreatDoorZ1
set_option linter.all false
set_option maxRecDepth 100000
set_option maxHeartbeats 64000000
namespace Go.Proofs.YtlcebdaghmdkeabGreatDoor
open Go.Proofs.Tryz
open Go.RowKit
theorem byte_at {s:ah} {k:Nat} (h:k<s.size):s.data.toList[k]'(by simpa using h)=s[k]:=by rw [Array.getElem_toList];rfl
theorem Z4 {s:ah} {k:Nat} (h:k<s.size) (h0:((s.data.toList.take k).all fun c=>decide ((c.toNat:Int)<128))=true) (h1:(s[k].toNat:Int)<128):((s.data.toList.take (k+1)).all fun c=>decide ((c.toNat:Int)<128))=true:=
 Kw _ _ (by simpa using h) h0 (by rw [byte_at h];simpa using h1)
theorem Z5 {s:ah} {k:Nat} (h:k<s.size) (h1:(128:Int)<= (s[k].toNat:Int)):fU s=false:=by
 have:=Ky (fun c:UInt8=>decide ((c.toNat:Int)<128)) s.data.toList (k:=k) (by simpa using h) (by rw [byte_at h];simpa using h1);unfold fU;rw [this];rfl
theorem Dq (s:ah) (w:World) (hs:s.size<=1073741824):Calls prog 62 #[.string s] w fun e w'=>e= .returned (.bool (fU s))/\w=w':=by
 go_enter func62,ntmps62;go_wp2
 go_loop [6] (fun i=>∃k:Nat,k<=s.size/\i= .int .i64 k/\ ((s.data.toList.take k).all fun c=>decide ((c.toNat:Int)<128))=true) (fun i=>s.size-(intOf i).toNat)
 case atStart=>exact⟨0,Nat.zero_le _,rfl,rfl⟩
 case round=>
  obtain⟨k,hk,rfl,ht⟩:=hrel;have Ht:=ae ht;clear ht;by_cases hlt:k<s.size
  ·by_cases h1:(128:Int)<= (s[k].toNat:Int)
   ·go_wp2
    go_ret;exact⟨dv (Z5 hlt h1).symm,rfl⟩
   ·go_wp2
    go_round
    case rel=>exact⟨k+1,by omega,by go_num,Z4 hlt Ht.out (by omega)⟩
    case measure=>simp [intOf];omega
  ·go_wp2
   go_ret;refine⟨dv ?_,rfl⟩;have:=Ht.out;rw [List.take_of_length_le (by simp;omega)] at this;unfold fU;rw [this];simp;omega
theorem Rl (m:Nat):∀(x:V) (ka:au) (kc:Nat) (la:au) (lc:Nat) (S:az) (w:World),x.size<=m->x.size<=1073741824->x.In w S ka kc la lc->
 Calls prog 42 #[x.val ka kc la lc] w fun e w'=>e= .returned (.int .i64 x.count)/\Ext w w':=by
 induction m with
 |zero=>intro x _ _ _ _ _ _ h;have:=x.size_pos;omega
 |succ m ih=>
  intro x ka kc la lc S w hm hsz hin;have hl:=x.kB;have hcs:=x.count_le;have Rm:=ae x.count_eq;go_enter func42,ntmps42;go_wp2_with fail
  go_loopg [3,9] x.l.length (fun g t i wr=>∃k c:Nat,k<=x.l.length/\i= .int .i64 k/\g=x.l.length-k/\t= .int .i64 c/\c<=x.size/\c=1+((x.l.take k).map V.count).sum/\
   aD wr w.heap.size x ka kc la lc/\Ext w wr)
  case atStart=>exact⟨0,1,by omega,rfl,rfl,rfl,by omega,by simp,aj,Xt⟩
  case round=>
   obtain⟨k,c,hk,rfl,rfl,rfl,hcz,hc,ag,hx⟩:=hrel;have Hc:=ae hc;clear hc;have hc0:=ag.cells;have aw:=ag.free;have hl0:=ag.lt;by_cases hlt:k<x.l.length
   ·obtain⟨b,o,rfl,hS,iD,iE,iY,iF,⟨d0,d1,d2,d3,d4⟩,hin'⟩:=(hin.ext hx).item hlt
    have gf:=V.qy hlt;have lQ:=(x.l[k]).count_le;have aP:=ae (Qp V.count x.l hlt);have hle:=Kv V.count x.l (k+1);have qh:=ae (show c+(x.l[k]).count<=x.size by have h1:=aP.out;have h2:=Hc.out;have h3:=Rm.out;omega);have rF:=qh.out;clear hle;go_wp2_with (go_at_call 42;(with_reducible refine(ih _ _ _ _ _ _ _ (by omega) (by omega) (hin'.ext Xt)).mono ?_);rintro e w1 ⟨rfl,h1⟩;obtain⟨hc1,aA,hz1⟩:=cp h1;(try simp at hz1));go_roundg (x.l.length-(k+1))
    case measure=>omega
    case rel=>exact⟨k+1,c+(x.l[k]).count,by omega,by go_num,rfl,by go_num,qh.out,by have h1:=aP.out;have h2:=Hc.out;omega,aj,Xt⟩
   ·go_wp2_with fail
    go_ret;refine⟨Zl ?_,Xt⟩;have h1:=Hc.out;rw [List.take_of_length_le (by omega)] at h1;have h2:=Rm.out;omega
theorem Rn {ks:List ah} {k:Nat} (h:∀i,(h:i<ks.length)->i<k->fU ks[i]=true/\ (0<i->bC (ks[i-1]'(by omega)) ks[i]=true)) (hk:k<ks.length)
 (h1:fU ks[k]=true/\ (0<k->bC (ks[k-1]'(by omega)) ks[k]=true)):∀i,(h:i<ks.length)->i<k+1->fU ks[i]=true/\ (0<i->bC (ks[i-1]'(by omega)) ks[i]=true):=by
 intro i hi hik;by_cases e:i=k
 ·subst e;exact h1
 ·exact h i hi (by omega)
theorem Z6 {ks:List ah} {k:Nat} (h:∀i,(h:i<ks.length)->i<k->fU ks[i]=true/\ (0<i->bC (ks[i-1]'(by omega)) ks[i]=true)) (hk:ks.length<=k):y5 ks=true:=by
 unfold y5;simp only [decide_eq_true_eq];intro i hi;exact h i hi (by omega)
theorem Ro {ks:List ah} {k:Nat} (hk:k<ks.length) (h1:¬(fU ks[k]=true/\ (0<k->bC (ks[k-1]'(by omega)) ks[k]=true))):y5 ks=false:=by
 unfold y5;simp only [decide_eq_false_iff_not];exact fun h=>h1 (h k hk)
theorem Z7 (m:Nat) (d:Int) (hd0:0<=d) (hd1:d<=100)
 (ih:∀(x:V) (ka:au) (kc:Nat) (la:au) (lc:Nat) (S:az) (d:Int) (w:World),x.size<=m->x.size<=1073741824->0<=d->d<=101->x.In w S ka kc la lc->
  Calls prog 41 #[x.val ka kc la lc, .int .i64 d] w fun e w'=>e= .returned (.bool (x.good d))/\Ext w w')
 (l:List V) (a:au) (n cap:Nat) (bd:Nat) (S:az) (w:World) (hn:Hid (n=l.length)) (hl:n<=1073741824) (hsz:∀x∈l,x.size<=m/\x.size<=1073741824) (hr:Rows w S l a) (vt:w.cell? ⟨bd,0,none⟩=some (.int .i64 d)):
 Calls prog 94 #[.slice a n cap, .func (.func 64) #[] #[.pointer (some ⟨bd,0,none⟩)]] w fun e w'=>∃n:Int,e= .returned (.int .i64 n)/\decide (0<=n)= !(l.all fun x=>x.good (d+1))/\Ext w w':=by
 have Rq:∀(x:V) (ka:au) (kc:Nat) (la:au) (lc:Nat) (w':World),x.size<=m->x.size<=1073741824->x.In w' S ka kc la lc->w'.cell? ⟨bd,0,none⟩=some (.int .i64 d)->
  Calls prog 64 #[x.val ka kc la lc, .pointer (some ⟨bd,0,none⟩)] w' fun e w''=>e= .returned (.bool (!x.good (d+1)))/\Ext w' w'':=by
  intro x ka kc la lc w' h1 h2 h3 h4;have hbl:=lh h4;simp only at hbl;go_enter func64,ntmps64;go_wp2_with (go_at_call 41;(with_reducible refine(ih _ _ _ _ _ _ _ _ h1 h2 (by omega) (by omega) (h3.ext Xt)).mono ?_);rintro e w1 ⟨rfl,h1⟩;obtain⟨hc1,aA,hz1⟩:=cp h1;(try simp at hz1));go_ret;exact⟨rfl,Xt⟩
 have Z8:=ae Rq;have Ih:=ae ih;have qh:=ae hsz;clear Rq ih hsz;go_enter func94,ntmps94;go_wp2_with fail
 go_loopg [5,8] n (fun g _ i wr=>∃k:Nat,k<=n/\i= .int .i64 k/\g=n-k/\ ((l.take k).all fun x=>x.good (d+1))=true/\Ext w wr)
 case atStart=>exact⟨0,by omega,rfl,rfl,rfl,Ext.refl _⟩
 case round=>
  obtain⟨k,hk,rfl,rfl,hg,hx⟩:=hrel;have Hg:=ae hg;clear hg;by_cases hlt:k<n
  ·have hlt':k<l.length:=by have:=hn.out;omega
   obtain⟨b,o,rfl,hS,hr⟩:∃b o,a=some ⟨b,o,none⟩/\S b/\∀i (h:i<l.length),V.Item w S b (o+i*5) l[i]:=hr.resolve_left (by intro e;subst e;simp at hlt');obtain⟨iD,iE,iY,iF,⟨d0,d1,d2,d3,d4⟩,hin'⟩:=(hr k hlt').ext hx;have Hr:=ae hr;clear hr;have Z9:=hx.cell vt;go_wp2_with (go_at_call 64;(with_reducible refine(Z8.out _ _ _ _ _ _ (qh.out _ (List.getElem_mem hlt')).1 (qh.out _ (List.getElem_mem hlt')).2 (hin'.ext Xt) (Ext.cell Xt Z9)).mono ?_);rintro e w1 ⟨rfl,h1⟩;obtain⟨hc1,aA,hz1⟩:=cp h1;(try simp at hz1))
   ·go_ret
    go_light;have h1:(l[k]).good (d+1)=false:=by simp_all
    exact⟨_,rfl,by rw [Ky _ l hlt' h1];simp,Xt⟩
   ·have h1:(l[k]).good (d+1)=true:=by simp_all
    go_roundg (n-(k+1))
    case measure=>omega
    case rel=>exact⟨k+1,by omega,by go_num,rfl,Kw _ l hlt' Hg.out h1,Xt⟩
  ·go_wp2_with fail
   go_ret;refine⟨_,rfl,?_,Xt⟩;have:=Hg.out;rw [List.take_of_length_le (by have:=hn.out;omega)] at this;rw [this];simp
theorem Z' (m:Nat) (d:Int) (hd0:0<=d) (hd1:d<=100)
 (ih:∀(x:V) (ka:au) (kc:Nat) (la:au) (lc:Nat) (S:az) (d:Int) (w:World),x.size<=m->x.size<=1073741824->0<=d->d<=101->x.In w S ka kc la lc->
  Calls prog 41 #[x.val ka kc la lc, .int .i64 d] w fun e w'=>e= .returned (.bool (x.good d))/\Ext w w')
 (l:List V) (a:au) (n cap:Nat) (bd:Nat) (S:az) (w:World) (hn:Hid (n=l.length)) (hl:n<=1073741824) (hsz:∀x∈l,x.size<=m/\x.size<=1073741824) (hr:Rows w S l a) (vt:w.cell? ⟨bd,0,none⟩=some (.int .i64 d)):
 Calls prog 63 #[.slice a n cap, .func (.func 64) #[] #[.pointer (some ⟨bd,0,none⟩)]] w fun e w'=>e= .returned (.bool (!(l.all fun x=>x.good (d+1))))/\Ext w w':=by
 have Dr:=Z7 m d hd0 hd1 ih l a n cap bd S w hn hl hsz hr vt;have KW:=ae Dr;clear Dr ih hsz;go_enter func63,ntmps63;go_wp2_with (go_at_call 94;refine KW.out.mono ?_;rintro e w1 ⟨n,rfl,hn,h1⟩;have Hn:=ae hn;clear hn);go_ret;exact⟨dv Hn.out,Xt⟩
theorem Rs (m:Nat):∀(x:V) (ka:au) (kc:Nat) (la:au) (lc:Nat) (S:az) (d:Int) (w:World),x.size<=m->x.size<=1073741824->0<=d->d<=101->x.In w S ka kc la lc->
 Calls prog 41 #[x.val ka kc la lc, .int .i64 d] w fun e w'=>e= .returned (.bool (x.good d))/\Ext w w':=by
 induction m with
 |zero=>intro x _ _ _ _ _ _ _ h;have:=x.size_pos;omega
 |succ m ih=>
  intro x ka kc la lc S d w hm hsz hd0 hd1 hin;have hl:=x.kB;have hlk:=x.Ar;have hls:=x.Ku;have Hg:=ae (x.ud d);go_enter func41,ntmps41;go_upto_region 1 with fail
  go_cut [18] (fun s wx=>s= .bool (g1 d x.k)/\aD wx w.heap.size x ka kc la lc/\af wx (w.heap.size+1) #[.int .i64 d] 3/\Ext w wx)
  case first=>
   go_wp2_with fail
   all_goals
    go_meet
    refine⟨vb ?_,aj,aj,Xt⟩;go_light;clear ih Hg hin;simp only [g1]
    grind
  case rest=>
   obtain⟨hs,ag,ai,hx⟩:=hcut;obtain⟨hc0,aw,hl0⟩:=ag.see;obtain⟨hc1,aA,ay⟩:=ai.see;by_cases h1:g1 d x.k=true
   ·rw [h1] at hs
    subst hs;go_wp2_with fail;go_ret;exact⟨dv (by rw [Hg.out];simp [V.flat,h1]),Xt⟩
   have h1:g1 d x.k=false:=by simpa using h1
   rw [h1] at hs;subst hs;go_upto_region 3 with fail
   go_cut [63] (fun s wx=>s= .bool (g2 x.k x.n x.s x.keys.length x.l.length)/\wc=wx)
   case first=>
    go_wp2_with fail
    all_goals
     go_meet
     first
      |(refine⟨vb ?_,rfl⟩;go_light;clear ih Hg hin;simp only [g2];grind)
      |(exfalso;go_light;clear ih Hg hin;grind)
   case rest=>
    obtain⟨hs,rfl⟩:=hcut;by_cases h2:g2 x.k x.n x.s x.keys.length x.l.length=true
    ·rw [h2] at hs
     subst hs;go_wp2_with fail;go_ret;exact⟨dv (by rw [Hg.out];simp [V.flat,h1,h2]),Xt⟩
    have h2:g2 x.k x.n x.s x.keys.length x.l.length=false:=by simpa using h2
    rw [h2] at hs;subst hs;go_upto_region 5 with fail
    go_cut [92] (fun s wx=>s= .bool (g3 x.k x.n x.s)/\wc=wx)
    case first=>
     go_wp2_with ((go_at_call 62);(with_reducible refine(Dq _ _ (by omega)).mono ?_);rintro e w1 ⟨rfl,rfl⟩)
     all_goals
      go_meet
      first
       |(refine⟨vb ?_,rfl⟩;go_light;clear ih Hg hin;simp only [g3];grind)
       |(exfalso;go_light;clear ih Hg hin;grind)
    case rest=>
     obtain⟨hs,rfl⟩:=hcut;by_cases h3:g3 x.k x.n x.s=true
     ·rw [h3] at hs
      subst hs;go_wp2_with fail;go_ret;exact⟨dv (by rw [Hg.out];simp [V.flat,h1,h2,h3]),Xt⟩
     have h3:g3 x.k x.n x.s=false:=by simpa using h3
     rw [h3] at hs;subst hs;go_upto_region 7 with fail
     go_cut [104] (fun s wx=>s= .bool (g4 x.k x.keys.length x.l.length)/\wc=wx)
     case first=>
      go_wp2_with fail
      all_goals
       go_meet
       first
        |(refine⟨vb ?_,rfl⟩;go_light;clear ih Hg hin;simp only [g4];grind)
        |(exfalso;go_light;clear ih Hg hin;grind)
     case rest=>
      obtain⟨hs,rfl⟩:=hcut;by_cases h4:g4 x.k x.keys.length x.l.length=true
      ·rw [h4] at hs
       subst hs;go_wp2_with fail;go_ret;exact⟨dv (by rw [Hg.out];simp [V.flat,h1,h2,h3,h4]),Xt⟩
      have h4:g4 x.k x.keys.length x.l.length=false:=by simpa using h4
      rw [h4] at hs;subst hs;go_wp2_with fail
      go_loopg [5,6,108] x.keys.length (fun g _ _ i wr=>∃k:Nat,k<=x.keys.length/\i= .int .i64 k/\g=x.keys.length-k/\
       (∀i,(h:i<x.keys.length)->i<k->fU x.keys[i]=true/\ (0<i->bC (x.keys[i-1]'(by omega)) x.keys[i]=true))/\
       aD wr w.heap.size x ka kc la lc/\af wr (w.heap.size+1) #[.int .i64 d] 3/\Ext w wr)
      case atStart=>exact⟨0,by omega,rfl,rfl,fun i _ h=>by omega,ag,ai,hx⟩
      case round=>
       clear ag ai hc0 aw hl0 hc1 aA ay hx;obtain⟨k,hk,rfl,rfl,qO,ag,ai,hx⟩:=hrel;have KX:=ae qO;clear qO;obtain⟨hc0,aw,hl0⟩:=ag.see;obtain⟨hc1,aA,ay⟩:=ai.see;by_cases hlt:k<x.keys.length
       ·obtain⟨b,o,rfl,hS,d0⟩:=(hin.ext hx).key hlt
        have hp:=V.Zm hlt;by_cases p1:fU x.keys[k]=true
        ·cases k with
         |zero=>
          simp only [Nat.add_zero] at d0;go_wp2_with ((go_at_call 62);(with_reducible refine(Dq _ _ (by omega)).mono ?_);rintro e w1 ⟨rfl,rfl⟩);go_roundg (x.keys.length-(0+1))
          case measure=>omega
          case rel=>exact⟨0+1,by omega,by go_num,rfl,Rn KX.out hlt ⟨p1,fun h=>by omega⟩,ag,ai,hx⟩
         |succ k=>
          obtain⟨b',o',Ds,Am,d1⟩:=(hin.ext hx).key (i:=k) (by omega);simp only [Option.some.injEq,Addr.mk.injEq] at Ds;obtain⟨rfl,rfl,-⟩:=Ds;by_cases p2:bC x.keys[k] x.keys[k+1]=true
          ·have p2':Op.bytesLess x.keys[k].toList x.keys[k+1].toList=true:=p2
           go_wp2_with ((go_at_call 62);(with_reducible refine(Dq _ _ (by omega)).mono ?_);rintro e w1 ⟨rfl,rfl⟩);go_roundg (x.keys.length-(k+1+1))
           case measure=>omega
           case rel=>exact⟨k+1+1,by omega,by go_num,rfl,Rn KX.out hlt ⟨p1,fun _=>p2⟩,ag,ai,hx⟩
          ·have p2':Op.bytesLess x.keys[k].toList x.keys[k+1].toList=false:=by simpa [bC] using p2
           go_wp2_with ((go_at_call 62);(with_reducible refine(Dq _ _ (by omega)).mono ?_);rintro e w1 ⟨rfl,rfl⟩);go_ret;exact⟨dv (by rw [Hg.out];simp [V.flat,Ro hlt (fun h=>p2 (h.2 (by omega)))]),Xt⟩
        ·have p1':fU x.keys[k]=false:=by simpa using p1
         go_wp2_with ((go_at_call 62);(with_reducible refine(Dq _ _ (by omega)).mono ?_);rintro e w1 ⟨rfl,rfl⟩);go_ret;exact⟨dv (by rw [Hg.out];simp [V.flat,Ro hlt (fun h=>p1 h.1)]),Xt⟩
       ·have Hkb:=ae (Z6 KX.out (by omega))
        have ic:=((V.dz ..).1 (hin.ext hx)).2.2.2;have hd2:d<=100:=by have:=h1;simp only [g1,decide_eq_false_iff_not] at this;omega
        have Dr:=Z' m d hd0 hd2 ih x.l la x.l.length lc (w.heap.size+1) S wr (ae rfl) (by omega) (fun y hy=>by have:=V.yZ hy;omega) ic (by rw [hc1];rfl);have KW:=ae Dr;clear Dr ic;go_wp2_with (go_at_call 63;refine KW.out.mono ?_;rintro e w1 ⟨rfl,h9⟩;have he:=h9.size);go_ret;exact⟨dv (by rw [Hg.out];simp [V.flat,h1,h2,h3,h4,Hkb.out]),Xt⟩
theorem cT (x:V) (ka:au) (kc:Nat) (la:au) (lc:Nat) (S:az) (w:World) (hsz:x.size<=1073741824) (hin:x.In w S ka kc la lc):
 Calls prog 19 #[x.val ka kc la lc] w fun e w'=>e= .returned (.bool x.fine)/\Ext w w':=by
 have hc:=x.count_le;by_cases q1:x.good 1=true
 ·go_enter func19,ntmps19
  go_wp2_with (first|(go_at_call 41;(with_reducible refine(Rs _ _ _ _ _ _ _ _ _ (Nat.le_refl _) hsz (by omega) (by omega) (hin.ext Xt)).mono ?_);rintro e w1 ⟨rfl,h1⟩;obtain⟨hc1,aA,hz1⟩:=cp h1;(try simp at hz1))|(go_at_call 42;(with_reducible refine(Rl _ _ _ _ _ _ _ _ (Nat.le_refl _) hsz (hin.ext Xt)).mono ?_);rintro e w1 ⟨rfl,h1⟩;obtain⟨hc1,aA,hz1⟩:=cp h1;(try simp at hz1)));go_ret;refine⟨dv ?_,Xt⟩;go_light;simp [V.fine,q1];omega
 ·have q1:x.good 1=false:=by simpa using q1
  go_enter func19,ntmps19;go_wp2_with (first|(go_at_call 41;(with_reducible refine(Rs _ _ _ _ _ _ _ _ _ (Nat.le_refl _) hsz (by omega) (by omega) (hin.ext Xt)).mono ?_);rintro e w1 ⟨rfl,h1⟩;obtain⟨hc1,aA,hz1⟩:=cp h1;(try simp at hz1))|(go_at_call 42;(with_reducible refine(Rl _ _ _ _ _ _ _ _ (Nat.le_refl _) hsz (hin.ext Xt)).mono ?_);rintro e w1 ⟨rfl,h1⟩;obtain⟨hc1,aA,hz1⟩:=cp h1;(try simp at hz1)));go_ret;refine⟨dv ?_,Xt⟩;go_light;simp [V.fine,q1]
end Go.Proofs.YtlcebdaghmdkeabGreatDoor
