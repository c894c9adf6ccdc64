import Derived.Deep.DeepCutAuto
import Derived.Test.YtlcebdaghmdkeaaGreatDoorZ1
set_option linter.all false
set_option maxRecDepth 100000
set_option maxHeartbeats 64000000
namespace Go.Proofs.YtlcebdaghmdkeaaGreatDoor
open Go.Proofs.Tryz
open Go.RowKit
theorem byte_at {s:ah} {k:Nat} (h:k<s.size):s.data.toList[k]'(by simpa using h)=s[k]:=by rw [Array.getElem_toList];rfl
theorem Z4 {s:ah} {k:Nat} (h:k<s.size) (h0:((s.data.toList.take k).all fun c=>decide ((c.toNat:Int)<128))=true) (h1:(s[k].toNat:Int)<128):((s.data.toList.take (k+1)).all fun c=>decide ((c.toNat:Int)<128))=true:=
 KB _ _ (by simpa using h) h0 (by rw [byte_at h];simpa using h1)
theorem Z5 {s:ah} {k:Nat} (h:k<s.size) (h1:(128:Int)<= (s[k].toNat:Int)):fc s=false:=by
 have:=KC (fun c:UInt8=>decide ((c.toNat:Int)<128)) s.data.toList (k:=k) (by simpa using h) (by rw [byte_at h];simpa using h1);unfold fc;rw [this];rfl
theorem Di (s:ah) (w:World) (hs:s.size<=1073741824):Calls prog 95 #[.string s] w fun e w'=>e= .returned (.bool (fc s))/\w=w':=by
 go_enter func95,ntmps95;go_wp2
 go_loop [6] (fun i=>∃k:Nat,k<=s.size/\i= .int .i64 k/\ ((s.data.toList.take k).all fun c=>decide ((c.toNat:Int)<128))=true) (fun i=>s.size-(intOf i).toNat)
 case atStart=>exact⟨0,Nat.zero_le _,rfl,rfl⟩
 case round=>
  obtain⟨k,hk,rfl,ht⟩:=hrel;have Ht:=ae ht;clear ht;by_cases hlt:k<s.size
  ·by_cases h1:(128:Int)<= (s[k].toNat:Int)
   ·go_wp2
    go_ret;exact⟨dn (Z5 hlt h1).symm,rfl⟩
   ·go_wp2
    go_round
    case rel=>exact⟨k+1,by omega,by go_num,Z4 hlt Ht.out (by omega)⟩
    case measure=>simp [intOf];omega
  ·go_wp2
   go_ret;refine⟨dn ?_,rfl⟩;have:=Ht.out;rw [List.take_of_length_le (by simp;omega)] at this;unfold fc;rw [this];simp;omega
theorem Rn (m:Nat):∀(x:V) (ka:aq) (kc:Nat) (la:aq) (lc:Nat) (S:aA) (w:World),x.size<=m->x.size<=1073741824->x.In w S ka kc la lc->
 Calls prog 60 #[x.val ka kc la lc] w fun e w'=>e= .returned (.int .i64 x.count)/\Ext w w':=by
 induction m with
 |zero=>intro x _ _ _ _ _ _ h;have:=x.size_pos;omega
 |succ m ih=>
  intro x ka kc la lc S w hm hsz hin;have hl:=x.kI;have hcs:=x.count_le;have Ro:=ae x.count_eq;go_enter func60,ntmps60;go_wp2_with fail
  go_loopg [3,9] x.l.length (fun g t i wr=>∃k c:Nat,k<=x.l.length/\i= .int .i64 k/\g=x.l.length-k/\t= .int .i64 c/\c<=x.size/\c=1+((x.l.take k).map V.count).sum/\
   aD wr w.heap.size x ka kc la lc/\Ext w wr)
  case atStart=>exact⟨0,1,by omega,rfl,rfl,rfl,by omega,by simp,aj,Xt⟩
  case round=>
   obtain⟨k,c,hk,rfl,rfl,rfl,hcz,hc,ag,hx⟩:=hrel;have Hc:=ae hc;clear hc;have hc0:=ag.cells;have aw:=ag.free;have hl0:=ag.lt;by_cases hlt:k<x.l.length
   ·obtain⟨b,o,rfl,hS,iC,iD,jc,iE,⟨d0,d1,d2,d3,d4⟩,hin'⟩:=(hin.ext hx).item hlt
    have cP:=V.qi hlt;have lO:=(x.l[k]).count_le;have aQ:=ae (Qh V.count x.l hlt);have hle:=KA V.count x.l (k+1);have wW:=ae (show c+(x.l[k]).count<=x.size by have h1:=aQ.out;have h2:=Hc.out;have h3:=Ro.out;omega);have rb:=wW.out;clear hle;go_wp2_with (go_at_call 60;(with_reducible refine(ih _ _ _ _ _ _ _ (by omega) (by omega) (hin'.ext Xt)).mono ?_);rintro e w1 ⟨rfl,h1⟩;obtain⟨hc1,aB,hz1⟩:=cu h1;(try simp at hz1));go_roundg (x.l.length-(k+1))
    case measure=>omega
    case rel=>exact⟨k+1,c+(x.l[k]).count,by omega,by go_num,rfl,by go_num,wW.out,by have h1:=aQ.out;have h2:=Hc.out;omega,aj,Xt⟩
   ·go_wp2_with fail
    go_ret;refine⟨Za ?_,Xt⟩;have h1:=Hc.out;rw [List.take_of_length_le (by omega)] at h1;have h2:=Ro.out;omega
theorem Rq {ks:List ah} {k:Nat} (h:∀i,(h:i<ks.length)->i<k->fc ks[i]=true/\ (0<i->bB (ks[i-1]'(by omega)) ks[i]=true)) (hk:k<ks.length)
 (h1:fc ks[k]=true/\ (0<k->bB (ks[k-1]'(by omega)) ks[k]=true)):∀i,(h:i<ks.length)->i<k+1->fc ks[i]=true/\ (0<i->bB (ks[i-1]'(by omega)) ks[i]=true):=by
 intro i hi hik;by_cases e:i=k
 ·subst e;exact h1
 ·exact h i hi (by omega)
theorem Z6 {ks:List ah} {k:Nat} (h:∀i,(h:i<ks.length)->i<k->fc ks[i]=true/\ (0<i->bB (ks[i-1]'(by omega)) ks[i]=true)) (hk:ks.length<=k):yM ks=true:=by
 unfold yM;simp only [decide_eq_true_eq];intro i hi;exact h i hi (by omega)
theorem Rs {ks:List ah} {k:Nat} (hk:k<ks.length) (h1:¬(fc ks[k]=true/\ (0<k->bB (ks[k-1]'(by omega)) ks[k]=true))):yM ks=false:=by
 unfold yM;simp only [decide_eq_false_iff_not];exact fun h=>h1 (h k hk)
theorem Z7 (m:Nat) (d:Int) (hd0:0<=d) (hd1:d<=100)
 (ih:∀(x:V) (ka:aq) (kc:Nat) (la:aq) (lc:Nat) (S:aA) (d:Int) (w:World),x.size<=m->x.size<=1073741824->0<=d->d<=101->x.In w S ka kc la lc->
  Calls prog 59 #[x.val ka kc la lc, .int .i64 d] w fun e w'=>e= .returned (.bool (x.good d))/\Ext w w')
 (l:List V) (a:aq) (n cap:Nat) (bd:Nat) (S:aA) (w:World) (hn:Hid (n=l.length)) (hl:n<=1073741824) (hsz:∀x∈l,x.size<=m/\x.size<=1073741824) (hr:Rows w S l a) (uY:w.cell? ⟨bd,0,none⟩=some (.int .i64 d)):
 Calls prog 132 #[.slice a n cap, .func (.func 97) #[] #[.pointer (some ⟨bd,0,none⟩)]] w fun e w'=>∃n:Int,e= .returned (.int .i64 n)/\decide (0<=n)= !(l.all fun x=>x.good (d+1))/\Ext w w':=by
 have Rt:∀(x:V) (ka:aq) (kc:Nat) (la:aq) (lc:Nat) (w':World),x.size<=m->x.size<=1073741824->x.In w' S ka kc la lc->w'.cell? ⟨bd,0,none⟩=some (.int .i64 d)->
  Calls prog 97 #[x.val ka kc la lc, .pointer (some ⟨bd,0,none⟩)] w' fun e w''=>e= .returned (.bool (!x.good (d+1)))/\Ext w' w'':=by
  intro x ka kc la lc w' h1 h2 h3 h4;have hbl:=lu h4;simp only at hbl;go_enter func97,ntmps97;go_wp2_with (go_at_call 59;(with_reducible refine(ih _ _ _ _ _ _ _ _ h1 h2 (by omega) (by omega) (h3.ext Xt)).mono ?_);rintro e w1 ⟨rfl,h1⟩;obtain⟨hc1,aB,hz1⟩:=cu h1;(try simp at hz1));go_ret;exact⟨rfl,Xt⟩
 have Z8:=ae Rt;have Ih:=ae ih;have wW:=ae hsz;clear Rt ih hsz;go_enter func132,ntmps132;go_wp2_with fail
 go_loopg [5,8] n (fun g _ i wr=>∃k:Nat,k<=n/\i= .int .i64 k/\g=n-k/\ ((l.take k).all fun x=>x.good (d+1))=true/\Ext w wr)
 case atStart=>exact⟨0,by omega,rfl,rfl,rfl,Ext.refl _⟩
 case round=>
  obtain⟨k,hk,rfl,rfl,hg,hx⟩:=hrel;have Hg:=ae hg;clear hg;by_cases hlt:k<n
  ·have hlt':k<l.length:=by have:=hn.out;omega
   obtain⟨b,o,rfl,hS,hr⟩:∃b o,a=some ⟨b,o,none⟩/\S b/\∀i (h:i<l.length),V.Item w S b (o+i*5) l[i]:=hr.resolve_left (by intro e;subst e;simp at hlt');obtain⟨iC,iD,jc,iE,⟨d0,d1,d2,d3,d4⟩,hin'⟩:=(hr k hlt').ext hx;have Hr:=ae hr;clear hr;have Z9:=hx.cell uY;go_wp2_with (go_at_call 97;(with_reducible refine(Z8.out _ _ _ _ _ _ (wW.out _ (List.getElem_mem hlt')).1 (wW.out _ (List.getElem_mem hlt')).2 (hin'.ext Xt) (Ext.cell Xt Z9)).mono ?_);rintro e w1 ⟨rfl,h1⟩;obtain⟨hc1,aB,hz1⟩:=cu h1;(try simp at hz1))
   ·go_ret
    go_light;have h1:(l[k]).good (d+1)=false:=by simp_all
    exact⟨_,rfl,by rw [KC _ l hlt' h1];simp,Xt⟩
   ·have h1:(l[k]).good (d+1)=true:=by simp_all
    go_roundg (n-(k+1))
    case measure=>omega
    case rel=>exact⟨k+1,by omega,by go_num,rfl,KB _ l hlt' Hg.out h1,Xt⟩
  ·go_wp2_with fail
   go_ret;refine⟨_,rfl,?_,Xt⟩;have:=Hg.out;rw [List.take_of_length_le (by have:=hn.out;omega)] at this;rw [this];simp
theorem Z' (m:Nat) (d:Int) (hd0:0<=d) (hd1:d<=100)
 (ih:∀(x:V) (ka:aq) (kc:Nat) (la:aq) (lc:Nat) (S:aA) (d:Int) (w:World),x.size<=m->x.size<=1073741824->0<=d->d<=101->x.In w S ka kc la lc->
  Calls prog 59 #[x.val ka kc la lc, .int .i64 d] w fun e w'=>e= .returned (.bool (x.good d))/\Ext w w')
 (l:List V) (a:aq) (n cap:Nat) (bd:Nat) (S:aA) (w:World) (hn:Hid (n=l.length)) (hl:n<=1073741824) (hsz:∀x∈l,x.size<=m/\x.size<=1073741824) (hr:Rows w S l a) (uY:w.cell? ⟨bd,0,none⟩=some (.int .i64 d)):
 Calls prog 96 #[.slice a n cap, .func (.func 97) #[] #[.pointer (some ⟨bd,0,none⟩)]] w fun e w'=>e= .returned (.bool (!(l.all fun x=>x.good (d+1))))/\Ext w w':=by
 have Dj:=Z7 m d hd0 hd1 ih l a n cap bd S w hn hl hsz hr uY;have K1:=ae Dj;clear Dj ih hsz;go_enter func96,ntmps96;go_wp2_with (go_at_call 132;refine K1.out.mono ?_;rintro e w1 ⟨n,rfl,hn,h1⟩;have Hn:=ae hn;clear hn);go_ret;exact⟨dn Hn.out,Xt⟩
theorem Ru (m:Nat):∀(x:V) (ka:aq) (kc:Nat) (la:aq) (lc:Nat) (S:aA) (d:Int) (w:World),x.size<=m->x.size<=1073741824->0<=d->d<=101->x.In w S ka kc la lc->
 Calls prog 59 #[x.val ka kc la lc, .int .i64 d] w fun e w'=>e= .returned (.bool (x.good d))/\Ext w w':=by
 induction m with
 |zero=>intro x _ _ _ _ _ _ _ h;have:=x.size_pos;omega
 |succ m ih=>
  intro x ka kc la lc S d w hm hsz hd0 hd1 hin;have hl:=x.kI;have hlk:=x.Ae;have hls:=x.Kz;have Hg:=ae (x.rR d);go_enter func59,ntmps59;go_upto_region 1 with fail
  go_cut [18] (fun s wx=>s= .bool (g1 d x.k)/\aD wx w.heap.size x ka kc la lc/\af wx (w.heap.size+1) #[.int .i64 d] 3/\Ext w wx)
  case first=>
   go_wp2_with fail
   all_goals
    go_meet
    refine⟨vb ?_,aj,aj,Xt⟩;go_light;clear ih Hg hin;simp only [g1]
    grind
  case rest=>
   obtain⟨hs,ag,ai,hx⟩:=hcut;obtain⟨hc0,aw,hl0⟩:=ag.see;obtain⟨hc1,aB,az⟩:=ai.see;by_cases h1:g1 d x.k=true
   ·rw [h1] at hs
    subst hs;go_wp2_with fail;go_ret;exact⟨dn (by rw [Hg.out];simp [V.flat,h1]),Xt⟩
   have h1:g1 d x.k=false:=by simpa using h1
   rw [h1] at hs;subst hs;go_upto_region 3 with fail
   go_cut [63] (fun s wx=>s= .bool (g2 x.k x.n x.s x.keys.length x.l.length)/\wc=wx)
   case first=>
    go_wp2_with fail
    all_goals
     go_meet
     first
      |(refine⟨vb ?_,rfl⟩;go_light;clear ih Hg hin;simp only [g2];grind)
      |(exfalso;go_light;clear ih Hg hin;grind)
   case rest=>
    obtain⟨hs,rfl⟩:=hcut;by_cases h2:g2 x.k x.n x.s x.keys.length x.l.length=true
    ·rw [h2] at hs
     subst hs;go_wp2_with fail;go_ret;exact⟨dn (by rw [Hg.out];simp [V.flat,h1,h2]),Xt⟩
    have h2:g2 x.k x.n x.s x.keys.length x.l.length=false:=by simpa using h2
    rw [h2] at hs;subst hs;go_upto_region 5 with fail
    go_cut [92] (fun s wx=>s= .bool (g3 x.k x.n x.s)/\wc=wx)
    case first=>
     go_wp2_with ((go_at_call 95);(with_reducible refine(Di _ _ (by omega)).mono ?_);rintro e w1 ⟨rfl,rfl⟩)
     all_goals
      go_meet
      first
       |(refine⟨vb ?_,rfl⟩;go_light;clear ih Hg hin;simp only [g3];grind)
       |(exfalso;go_light;clear ih Hg hin;grind)
    case rest=>
     obtain⟨hs,rfl⟩:=hcut;by_cases h3:g3 x.k x.n x.s=true
     ·rw [h3] at hs
      subst hs;go_wp2_with fail;go_ret;exact⟨dn (by rw [Hg.out];simp [V.flat,h1,h2,h3]),Xt⟩
     have h3:g3 x.k x.n x.s=false:=by simpa using h3
     rw [h3] at hs;subst hs;go_upto_region 7 with fail
     go_cut [104] (fun s wx=>s= .bool (g4 x.k x.keys.length x.l.length)/\wc=wx)
     case first=>
      go_wp2_with fail
      all_goals
       go_meet
       first
        |(refine⟨vb ?_,rfl⟩;go_light;clear ih Hg hin;simp only [g4];grind)
        |(exfalso;go_light;clear ih Hg hin;grind)
     case rest=>
      obtain⟨hs,rfl⟩:=hcut;by_cases h4:g4 x.k x.keys.length x.l.length=true
      ·rw [h4] at hs
       subst hs;go_wp2_with fail;go_ret;exact⟨dn (by rw [Hg.out];simp [V.flat,h1,h2,h3,h4]),Xt⟩
      have h4:g4 x.k x.keys.length x.l.length=false:=by simpa using h4
      rw [h4] at hs;subst hs;go_wp2_with fail
      go_loopg [5,6,108] x.keys.length (fun g _ _ i wr=>∃k:Nat,k<=x.keys.length/\i= .int .i64 k/\g=x.keys.length-k/\
       (∀i,(h:i<x.keys.length)->i<k->fc x.keys[i]=true/\ (0<i->bB (x.keys[i-1]'(by omega)) x.keys[i]=true))/\
       aD wr w.heap.size x ka kc la lc/\af wr (w.heap.size+1) #[.int .i64 d] 3/\Ext w wr)
      case atStart=>exact⟨0,by omega,rfl,rfl,fun i _ h=>by omega,ag,ai,hx⟩
      case round=>
       clear ag ai hc0 aw hl0 hc1 aB az hx;obtain⟨k,hk,rfl,rfl,qE,ag,ai,hx⟩:=hrel;have K2:=ae qE;clear qE;obtain⟨hc0,aw,hl0⟩:=ag.see;obtain⟨hc1,aB,az⟩:=ai.see;by_cases hlt:k<x.keys.length
       ·obtain⟨b,o,rfl,hS,d0⟩:=(hin.ext hx).key hlt
        have hp:=V.Zb hlt;by_cases p1:fc x.keys[k]=true
        ·cases k with
         |zero=>
          simp only [Nat.add_zero] at d0;go_wp2_with ((go_at_call 95);(with_reducible refine(Di _ _ (by omega)).mono ?_);rintro e w1 ⟨rfl,rfl⟩);go_roundg (x.keys.length-(0+1))
          case measure=>omega
          case rel=>exact⟨0+1,by omega,by go_num,rfl,Rq K2.out hlt ⟨p1,fun h=>by omega⟩,ag,ai,hx⟩
         |succ k=>
          obtain⟨b',o',Dk,z8,d1⟩:=(hin.ext hx).key (i:=k) (by omega);simp only [Option.some.injEq,Addr.mk.injEq] at Dk;obtain⟨rfl,rfl,-⟩:=Dk;by_cases p2:bB x.keys[k] x.keys[k+1]=true
          ·have p2':Op.bytesLess x.keys[k].toList x.keys[k+1].toList=true:=p2
           go_wp2_with ((go_at_call 95);(with_reducible refine(Di _ _ (by omega)).mono ?_);rintro e w1 ⟨rfl,rfl⟩);go_roundg (x.keys.length-(k+1+1))
           case measure=>omega
           case rel=>exact⟨k+1+1,by omega,by go_num,rfl,Rq K2.out hlt ⟨p1,fun _=>p2⟩,ag,ai,hx⟩
          ·have p2':Op.bytesLess x.keys[k].toList x.keys[k+1].toList=false:=by simpa [bB] using p2
           go_wp2_with ((go_at_call 95);(with_reducible refine(Di _ _ (by omega)).mono ?_);rintro e w1 ⟨rfl,rfl⟩);go_ret;exact⟨dn (by rw [Hg.out];simp [V.flat,Rs hlt (fun h=>p2 (h.2 (by omega)))]),Xt⟩
        ·have p1':fc x.keys[k]=false:=by simpa using p1
         go_wp2_with ((go_at_call 95);(with_reducible refine(Di _ _ (by omega)).mono ?_);rintro e w1 ⟨rfl,rfl⟩);go_ret;exact⟨dn (by rw [Hg.out];simp [V.flat,Rs hlt (fun h=>p1 h.1)]),Xt⟩
       ·have Hkb:=ae (Z6 K2.out (by omega))
        have ic:=((V.dD ..).1 (hin.ext hx)).2.2.2;have hd2:d<=100:=by have:=h1;simp only [g1,decide_eq_false_iff_not] at this;omega
        have Dj:=Z' m d hd0 hd2 ih x.l la x.l.length lc (w.heap.size+1) S wr (ae rfl) (by omega) (fun y hy=>by have:=V.yL hy;omega) ic (by rw [hc1];rfl);have K1:=ae Dj;clear Dj ic;go_wp2_with (go_at_call 96;refine K1.out.mono ?_;rintro e w1 ⟨rfl,h9⟩;have he:=h9.size);go_ret;exact⟨dn (by rw [Hg.out];simp [V.flat,h1,h2,h3,h4,Hkb.out]),Xt⟩
theorem df (x:V) (ka:aq) (kc:Nat) (la:aq) (lc:Nat) (S:aA) (w:World) (hsz:x.size<=1073741824) (hin:x.In w S ka kc la lc):
 Calls prog 37 #[x.val ka kc la lc] w fun e w'=>e= .returned (.bool x.fine)/\Ext w w':=by
 have hc:=x.count_le;by_cases q1:x.good 1=true
 ·go_enter func37,ntmps37
  go_wp2_with (first|(go_at_call 59;(with_reducible refine(Ru _ _ _ _ _ _ _ _ _ (Nat.le_refl _) hsz (by omega) (by omega) (hin.ext Xt)).mono ?_);rintro e w1 ⟨rfl,h1⟩;obtain⟨hc1,aB,hz1⟩:=cu h1;(try simp at hz1))|(go_at_call 60;(with_reducible refine(Rn _ _ _ _ _ _ _ _ (Nat.le_refl _) hsz (hin.ext Xt)).mono ?_);rintro e w1 ⟨rfl,h1⟩;obtain⟨hc1,aB,hz1⟩:=cu h1;(try simp at hz1)));go_ret;refine⟨dn ?_,Xt⟩;go_light;simp [V.fine,q1];omega
 ·have q1:x.good 1=false:=by simpa using q1
  go_enter func37,ntmps37;go_wp2_with (first|(go_at_call 59;(with_reducible refine(Ru _ _ _ _ _ _ _ _ _ (Nat.le_refl _) hsz (by omega) (by omega) (hin.ext Xt)).mono ?_);rintro e w1 ⟨rfl,h1⟩;obtain⟨hc1,aB,hz1⟩:=cu h1;(try simp at hz1))|(go_at_call 60;(with_reducible refine(Rn _ _ _ _ _ _ _ _ (Nat.le_refl _) hsz (hin.ext Xt)).mono ?_);rintro e w1 ⟨rfl,h1⟩;obtain⟨hc1,aB,hz1⟩:=cu h1;(try simp at hz1)));go_ret;refine⟨dn ?_,Xt⟩;go_light;simp [V.fine,q1]
end Go.Proofs.YtlcebdaghmdkeaaGreatDoor
namespace Go.Proofs.YtlcebdaghmdkeaaGreatDoor
structure bM where
 k:Int
 p:ah
 f:ah
 v:V
def AK (f p:ah):Bool:=(f.data.toList++ [47]).isPrefixOf p.data.toList
def oo (x:V) (f p:ah) (y:V):V×Int:=
 if AK f p=true then(x,1) else if f=p then(x,0)
 else if(kg x f).2≠0 then(x,(kg x f).2)
 else if(eQ (kg x f).1 p y).2≠0 then(x,(eQ (kg x f).1 p y).2) else((eQ (kg x f).1 p y).1,0)
def bO (x:V) (o:bM):V×Int:=
 if o.k=1 then eQ x o.p o.v else if o.k=2 then kg x o.p else if o.k=3 then kf x o.p o.v
 else if o.k=4\/o.k=5 then
  if(cH x o.f).2≠0 then(x,(cH x o.f).2)
  else if o.k=5 then eQ x o.p (cH x o.f).1
  else oo x o.f o.p (cH x o.f).1
 else if o.k=6 then
  if(cH x o.p).2≠0 then(x,(cH x o.p).2)
  else if(cH x o.p).1.same o.v=true then(x,0) else(x,4)
 else(x,9)
def eX:List bM->V->V×Int
 | [],x=>(x,0)
 |o::r,x=>if(bO x o).2≠0 then bO x o else eX r (bO x o).1
def kR (x:V) (l:List bM):V×Int:=if 20<l.length then(x,2) else if(eX l x).2≠0 then(x,(eX l x).2) else((eX l x).1,0)
theorem Kr (x:V) (p:ah):((kg x p).2≠0-> (kg x p).1=x)/\ ((kg x p).2=0-> (kg x p).1.fine=true):=by
 unfold kg;refine⟨Ks,fun h=> ?_⟩;obtain⟨l,hn,hl,hf,h0,hg,he⟩:=Kt h;rw [he];exact hg
theorem Ku {x:V} {p:ah} (h:(cH x p).2=0):x.fine=true:=by
 unfold cH at h
 split at h
 ·simp at h
 ·by_cases hf:x.fine=false
  ·rw [if_pos hf] at h;simp at h
  ·simpa using hf
theorem Qf:∀(l:List ah) (x y:V),fB l x=some y->∀d:Int,x.good d=true-> (∃e,d<=e/\y.good e=true)/\y.count<=x.count
 | [],x,y,h,d,hd=>by
   have h:x=y:=by simpa [fB] using h
   subst h;exact⟨⟨d,Int.le_refl _,hd⟩,Nat.le_refl _⟩
 |a::r,x,y,h,d,hd=>by
  cases hc:x.child a with
  |none=>simp [fB,hc] at h
  |some i=>
   have hi:=vV (Fy hd) hc;have h:fB r x.l[i]=some y:=by simpa [fB,hc,hi] using h
   obtain⟨⟨e,h1,h2⟩,h3⟩:=Qf r _ y h (d+1) (Fz hd hi);have:=V.Fb hi;exact⟨⟨e,by omega,h2⟩,by omega⟩
theorem Y0 {x:V} {p:ah} (h:(cH x p).2=0):(cH x p).1.fine=true:=by
 have hf:=Ku h;unfold cH at h⊢
 cases hn:cM p with
 |none=>rw [hn] at h;simp at h
 |some l=>
  rw [hn] at h;simp only at h⊢;rw [if_neg (by rw [hf];decide)] at h⊢
  cases hg:fB l x with
  |none=>rw [hg] at h;simp at h
  |some y=>
   simp only;simp only [V.fine,Bool.and_eq_true,decide_eq_true_eq] at hf⊢;obtain⟨⟨e,h1,h2⟩,h3⟩:=Qf l x y hg 1 hf.1;exact⟨Kv h2 h1,by omega⟩
theorem Y1 {x:V} {p:ah} (h:(cH x p).2≠0):(cH x p).1=V.zero:=by
 unfold cH at h⊢
 cases hn:cM p with
 |none=>rfl
 |some l=>
  rw [hn] at h;simp only at h⊢;by_cases hf:x.fine=false
  ·rw [if_pos hf]
  ·rw [if_neg hf] at h⊢
   cases hg:fB l x with
   |none=>rfl
   |some y=>rw [hg] at h;simp at h
theorem py (x:V) (p:ah):(cH x p).1.size<=14640:=by
 by_cases h:(cH x p).2=0
 ·exact qh (Y0 h)
 ·rw [Y1 h,V.size_eq];decide
theorem Y2 (x:V) (f p:ah) (y:V) (hx:x.fine=true):((oo x f p y).2≠0-> (oo x f p y).1=x)/\ ((oo x f p y).2=0-> (oo x f p y).1.fine=true):=by
 unfold oo
 split
 ·exact⟨fun _=>rfl,fun h=>by simp at h⟩
 ·split
  ·exact⟨fun h=>absurd rfl h,fun _=>hx⟩
  ·split
   ·exact⟨fun _=>rfl,fun h=>absurd h (by assumption)⟩
   ·split
    ·exact⟨fun _=>rfl,fun h=>absurd h (by assumption)⟩
    ·rename_i h1 h2
     exact⟨fun h=>absurd rfl h,fun _=>((C6 _ y p).2 (by simpa using h2)).1⟩
theorem Y3 (x:V) (o:bM):((bO x o).2≠0-> (bO x o).1=x)/\ ((bO x o).2=0-> (bO x o).1.fine=true):=by
 unfold bO
 split
 ·exact⟨(C6 x o.v o.p).1,fun h=>((C6 x o.v o.p).2 h).1⟩
 split
 ·exact Kr x o.p
 split
 ·exact⟨(Qg x o.v o.p).1,fun h=>((Qg x o.v o.p).2 h).1⟩
 split
 ·split
  ·rename_i h;exact⟨fun _=>rfl,fun h'=>absurd h' h⟩
  ·rename_i h
   have hx:=Ku (by simpa using h)
   split
   ·exact⟨(C6 x _ o.p).1,fun h=>((C6 x _ o.p).2 h).1⟩
   ·exact Y2 x o.f o.p _ hx
 split
 ·split
  ·rename_i h;exact⟨fun _=>rfl,fun h'=>absurd h' h⟩
  ·rename_i h
   have hx:=Ku (by simpa using h)
   split
   ·exact⟨fun h=>absurd rfl h,fun _=>hx⟩
   ·exact⟨fun _=>rfl,fun h=>by simp at h⟩
 ·exact⟨fun _=>rfl,fun h=>by simp at h⟩
theorem Kw:∀(l m:List bM) (x:V),eX (l++m) x=if(eX l x).2≠0 then eX l x else eX m (eX l x).1
 | [],m,x=>by rw [List.nil_append,eX,if_neg (by simp)]
 |o::r,m,x=>by
  rw [List.cons_append,eX,eX];by_cases h:(bO x o).2≠0
  ·rw [if_pos h,if_pos h,if_pos h]
  ·rw [if_neg h,if_neg h]
   exact Kw r m _
theorem Y4 (l:List bM) (o:bM) (x:V) (h:(eX l x).2=0):eX (l++ [o]) x=bO (eX l x).1 o:=by
 rw [Kw,if_neg (by simp [h]),eX]
 split
 ·rfl
 ·rename_i h'
  rw [eX];exact Prod.ext rfl (by simpa using Eq.symm (by simpa using h'))
theorem Ky:∀(l:List bM) (x:V),(eX l x).2=0-> (l= []/\ (eX l x).1=x)\/ (eX l x).1.fine=true
 | [],x,_=> .inl ⟨rfl,by rw [eX]⟩
 |o::r,x,h=>by
  rw [eX] at h⊢
  split at h
  ·rename_i h';exact absurd h h'
  ·rename_i h'
   rw [if_neg h'];have h0:(bO x o).2=0:=by simpa using h'
   rcases Ky r _ h with⟨-,he⟩|hf
   ·rw [he];exact .inr ((Y3 x o).2 h0)
   ·exact .inr hf
theorem Y5 (l:List bM) (x:V) (h:(eX l x).2=0):(eX l x).1.size<=max x.size 14640:=by
 rcases Ky l x h with⟨-,he⟩|hf
 ·rw [he];omega
 ·have:=qh hf;omega
theorem Y6 (x:V) (l:List bM):((kR x l).2≠0-> (kR x l).1=x)/\ ((kR x l).2=0->l= []\/ (kR x l).1.fine=true):=by
 unfold kR
 split
 ·exact⟨fun _=>rfl,fun h=>by simp at h⟩
 ·split
  ·rename_i h;exact⟨fun _=>rfl,fun h'=>absurd h' h⟩
  ·rename_i h
   refine⟨fun h'=>absurd rfl h',fun _=> ?_⟩;rcases Ky l x (by simpa using h) with⟨h1,-⟩|hf
   ·exact .inl h1
   ·exact .inr hf
theorem Y7 (p:ah):AK p p=false:=by
 unfold AK;rw [Bool.eq_false_iff];intro h;have:=(List.isPrefixOf_iff_prefix.1 h).length_le;rw [List.length_append,List.length_singleton] at this;omega
theorem Y8 {x:V} {f:ah} {y:V}:oo x f f y=(x,0):=by
 unfold oo;rw [Y7,if_neg (by decide),if_pos rfl]
abbrev Eb:ah:=⟨#[111,112]⟩
abbrev nK:ah:=⟨#[112,97,116,104]⟩
abbrev vH:ah:=⟨#[102,114,111,109]⟩
abbrev xt:ah:=⟨#[118,97,108,117,101]⟩
def vW:List ah:= [⟨#[]⟩,⟨#[97,100,100]⟩,⟨#[114,101,109,111,118,101]⟩,⟨#[114,101,112,108,97,99,101]⟩,⟨#[109,111,118,101]⟩,⟨#[99,111,112,121]⟩,⟨#[116,101,115,116]⟩]
def qj (i:Nat):ah:=vW.getD i ⟨#[]⟩
def oP (s:ah) (ok:Bool):Nat->Int
 |0=>0
 |k+1=>if 1<=k/\ok=true/\qj k=s then(k:Int) else oP s ok k
theorem adh (s:ah) (ok:Bool):oP s ok 1=0:=by simp [oP]
theorem adj (s:ah) (ok:Bool) (k:Nat):0<=oP s ok k/\oP s ok k<max 1 k:=by
 induction k with
 |zero=>simp [oP]
 |succ k ih=>unfold oP;split<;>omega
def V.txt (x:V) (key:ah):ah×Bool:=((x.iG key).s,(x.member key).isSome&& (x.iG key).k==3)
def V.kd (x:V):Int:=oP (x.txt Eb).1 (x.txt Eb).2 7
def V.iT (x:V):Option bM:=
 if x.kd=0 then none else if(x.txt nK).2=false then none
 else if x.kd=1\/x.kd=3\/x.kd=6 then(if(x.member xt).isSome=true then some ⟨x.kd,(x.txt nK).1,⟨#[]⟩,x.iG xt⟩ else none)
 else if x.kd=4\/x.kd=5 then(if(x.txt vH).2=true then some ⟨x.kd,(x.txt nK).1,(x.txt vH).1,V.zero⟩ else none)
 else some ⟨x.kd,(x.txt nK).1,⟨#[]⟩,V.zero⟩
def nL:List V->Option (List bM)
 | []=>some []
 |x::r=>match x.iT with
  |none=>none
  |some o=>(nL r).map (o::·)
theorem TY:∀ {l:List V} {k:Nat} (h:k<l.length),l[k].iT=none->nL l=none
 |x::r,0,_,h=>by simp only [List.getElem_cons_zero] at h;simp [nL,h]
 |x::r,k+1,hk,h=>by
  have ih:=TY (l:=r) (k:=k) (by simpa using hk) (by simpa using h);unfold nL
  cases x.iT with
  |none=>rfl
  |some o=>simp [ih]
theorem adl {l:List V} {k:Nat} (hk:k<l.length) {os:List bM} (h:nL (l.take k)=some os) {o:bM} (ho:l[k].iT=some o):nL (l.take (k+1))=some (os++ [o]):=by
 induction l generalizing k os with
 |nil=>simp at hk
 |cons x r ih=>
  cases k with
  |zero=>
   simp only [List.getElem_cons_zero] at ho;simp only [List.take_zero,nL,Option.some.injEq] at h;subst h;simp [nL,ho]
  |succ k=>
   simp only [List.take_succ_cons] at h⊢;unfold nL at h⊢
   cases hx:x.iT with
   |none=>rw [hx] at h;cases h
   |some q=>
    rw [hx] at h;simp only at h⊢
    cases hr:nL (r.take k) with
    |none=>rw [hr] at h;cases h
    |some t=>
     rw [hr] at h;simp only [Option.map_some,Option.some.injEq] at h;subst h;rw [ih (by simpa using hk) hr (by simpa using ho)];simp
def jW (v:V):List bM×Int:=
 if v.fine=false\/v.k≠4 then([],1) else if 20<v.l.length then([],2) else match nL v.l with
  |none=>([],1)
  |some l=>(l,0)
theorem T3 {v:V} (h:v.fine=false\/v.k≠4):jW v=([],1):=by unfold jW;rw [if_pos h]
theorem adn {v:V} (h:v.fine=true) (h4:v.k=4) (hl:20<v.l.length):jW v=([],2):=by unfold jW;rw [if_neg (by simp [h,h4]),if_pos hl]
theorem ado {v:V} (h:v.fine=true) (h4:v.k=4) (hl:¬20<v.l.length) {k:Nat} (hk:k<v.l.length) (hb:v.l[k].iT=none):jW v=([],1):=by unfold jW;rw [if_neg (by simp [h,h4]),if_neg hl,TY hk hb]
theorem adp {v:V} (h:v.fine=true) (h4:v.k=4) (hl:¬20<v.l.length) {os:List bM} (ho:nL (v.l.take v.l.length)=some os):jW v=(os,0):=by
 unfold jW;rw [if_neg (by simp [h,h4]),if_neg hl];rw [List.take_length] at ho;rw [ho]
end Go.Proofs.YtlcebdaghmdkeaaGreatDoor
namespace Go.Proofs.YtlcebdaghmdkeaaGreatDoor
open Go.RowKit
structure St where
 sb:ah
 cm:ah
 ph:Int
 sp:Int
 wt:Int
 si:Int
def l9 (wt p:Int):Bool:=decide ((wt= -1/\0<=p/\p<=1099511627776)\/ (0<=wt/\wt<=100/\p=0))
def pJ (xs:List (Int×Int)):Bool:=xs.all fun x=>l9 x.1 x.2
def jX (im:ah) (xs:List (Int×Int)):Bool:=decide (im.toList≠ [])&&decide (im.size<=60)&&decide (xs.length<=8)&&pJ xs
def gD (s:St):Bool:=
 decide (s.sb.toList≠ []/\s.cm.toList≠ []/\0<=s.sp/\s.sp<=8/\0<=s.wt/\s.wt<=100/\0<=s.si/\s.si<=1099511627776/\ (s.ph≠3->s.si=0)/\
  ((s.ph=1/\s.sb.toList=s.cm.toList/\s.wt=100/\s.sp=0)\/ (s.ph=4/\s.wt=0/\s.sp=0/\s.sb.toList≠s.cm.toList)\/ ((s.ph=2\/s.ph=3)/\s.sb.toList≠s.cm.toList)))
def mH (i:ah):St:=⟨i,i,1,0,100,0⟩
def pI (now:Int):List (Int×Int)->St->Int->St
 | [],s,_=>mH s.cm
 |x::r,s,o=>
  if 0<=x.1 then pI now r {s with wt:=x.1,ph:=2,si:=0,sp:=s.sp+1} o
  else if s.ph≠3 then {s with ph:=3,si:=now}
  else if o=1 then pI now r {s with ph:=2,si:=0,sp:=s.sp+1} 0
  else if x.2=0\/now<s.si\/now-s.si<x.2 then s
  else pI now r {s with ph:=2,si:=0,sp:=s.sp+1} o
def bC (im:ah) (s:St):St:=if im.toList=s.cm.toList then s else⟨s.sb,im,2,0,0,0⟩
def eI (im:ah) (xs:List (Int×Int)) (s:St) (now order:Int):St×Int:=
 if jX im xs=false\/gD s=false then(s,1)
 else if now<0\/1099511627776<now then(s,8)
 else if order<0\/3<order then(s,9)
 else if im.toList≠s.cm.toList/\im.toList=s.sb.toList then(mH s.sb,0)
 else if(bC im s).ph≠2/\ (bC im s).ph≠3 then(bC im s,0)
 else if order=2 then(mH (bC im s).cm,0)
 else if order=3 then(⟨(bC im s).sb,(bC im s).cm,4,0,0,0⟩,0)
 else(pI now (xs.drop (bC im s).sp.toNat) (bC im s) order,0)
abbrev St.val (s:St):Value:= .agg #[.string s.sb, .string s.cm, .int .i64 s.ph, .int .i64 s.sp, .int .i64 s.wt, .int .i64 s.si]
end Go.Proofs.YtlcebdaghmdkeaaGreatDoor
namespace Go.Proofs.YtlcebdaghmdkeaaGreatDoor
open Go.Proofs.Tryz
open Go.RowKit
theorem vK (s:ah) (w:World):Calls prog 66 #[.string s] w fun e w'=>e= .returned (.agg #[.string s, .string s, .int .i64 1, .int .i64 0, .int .i64 100, .int .i64 0])/\Ext w w':=by
 go_enter func66,ntmps66;go_wp2;exact bodyPost_ret (v:= .agg #[.string s, .string s, .int .i64 1, .int .i64 0, .int .i64 100, .int .i64 0]) (by simp [results,results66,go_sem]) rfl ⟨rfl,(Ext.refl _).alloc _⟩
theorem En (wt p:Int) (w:World):Calls prog 39 #[.agg #[.int .i64 wt, .int .i64 p]] w fun e w'=>e= .returned (.bool (l9 wt p))/\Ext w w':=by
 go_enter func39,ntmps39;go_wp2
 all_goals go_ret
 all_goals refine⟨dn ?_,(Ext.refl _).alloc _⟩
 all_goals go_light
 all_goals unfold l9
 all_goals grind
theorem IA (s:St) (w:World):Calls prog 69 #[.agg #[.string s.sb, .string s.cm, .int .i64 s.ph, .int .i64 s.sp, .int .i64 s.wt, .int .i64 s.si]] w fun e w'=>e= .returned (.bool (gD s))/\Ext w w':=by
 obtain⟨sb,cm,ph,sp,wt,si⟩:=s;go_enter func69,ntmps69;go_wp2
 all_goals go_ret
 all_goals refine⟨dn ?_,(Ext.refl _).alloc _⟩
 all_goals go_light
 all_goals simp only [gD]
 all_goals grind
theorem aez (wt p:Int) (w:World):Calls prog 102 #[.agg #[.int .i64 wt, .int .i64 p]] w fun e w'=>e= .returned (.bool (!l9 wt p))/\Ext w w':=by
 go_enter func102,ntmps102;go_wp2_with (go_at_call 39;(with_reducible refine(En _ _ _).mono ?_);rintro e w1 ⟨rfl,h1⟩;obtain⟨hc1,aB,hz1⟩:=cu h1;(try simp at hz1);(try have kD:w.heap.size<w1.heap.size:=by omega);(try have jk:w.heap.size+1<w1.heap.size:=by omega);(try have kE:w.heap.size+2<w1.heap.size:=by omega);(try have kF:w.heap.size+3<w1.heap.size:=by omega));go_ret;exact⟨rfl,Xt⟩
def StepsIn (w:World) (a:aq) (xs:List (Int×Int)):Prop:=
 xs= []\/∃b o,a=some ⟨b,o,none⟩/\∀i,i<xs.length->w.cell? ⟨b,o+i*2,none⟩=some (.int .i64 (xs.getD i (0,0)).1)/\w.cell? ⟨b,o+i*2+1,none⟩=some (.int .i64 (xs.getD i (0,0)).2)
theorem StepsIn.ext {w w':World} {a:aq} {xs:List (Int×Int)} (h:StepsIn w a xs) (e:Ext w w'):StepsIn w' a xs:=by
 rcases h with h|⟨b,o,h,k⟩
 ·exact .inl h
 ·exact .inr ⟨b,o,h,fun i hi=>⟨e.cell (k i hi).1,e.cell (k i hi).2⟩⟩
theorem aeA {xs:List (Int×Int)} {k:Nat} (h:k<xs.length) (h0:pJ (xs.take k)=true) (h1:l9 xs[k].1 xs[k].2=true):pJ (xs.take (k+1))=true:=by
 rw [List.take_succ_eq_append_getElem h];simp only [pJ,List.all_append,List.all_cons,List.all_nil,Bool.and_true,Bool.and_eq_true];exact⟨h0,h1⟩
theorem aeB {xs:List (Int×Int)} {k:Nat} (h:k<xs.length) (h1:l9 xs[k].1 xs[k].2=false):pJ xs=false:=by
 simp only [pJ,List.all_eq_false];exact⟨xs[k],List.getElem_mem h,by simp [h1]⟩
theorem aeC (a:aq) (cap:Nat) (xs:List (Int×Int)) (w:World) (hl:xs.length<=9223372036854775807) (hs:StepsIn w a xs):
 Calls prog 134 #[.slice a xs.length cap, .func (.func 102) #[] #[]] w fun e w'=>∃n:Int,e= .returned (.int .i64 n)/\decide (0<=n)= !pJ xs/\Ext w w':=by
 rcases hs with rfl|⟨b,o,rfl,hc⟩
 ·go_enter func134,ntmps134
  go_wp2;refine wp_loop_rounds 1 ?_;rw [rounds_succ];go_wp2;go_ret;exact⟨_,rfl,by simp [pJ],Ext.refl _⟩
 ·go_enter func134,ntmps134
  go_wp2
  go_loopg [5,8] xs.length (fun g _ i wr=>∃k:Nat,k<=xs.length/\i= .int .i64 k/\g=xs.length-k/\pJ (xs.take k)=true/\Ext w wr)
  case atStart=>exact⟨0,by omega,rfl,rfl,rfl,Ext.refl _⟩
  case round=>
   obtain⟨k,hk,rfl,rfl,hg,hx⟩:=hrel;have Hg:=ae hg;clear hg;by_cases hlt:k<xs.length
   ·obtain⟨c0,c1⟩:=hc k hlt
    have c0:=hx.cell c0;have c1:=hx.cell c1;clear hc;go_wp2_with (go_at_call 102;(with_reducible refine(aez _ _ _).mono ?_);rintro e w1 ⟨rfl,h1⟩;obtain⟨hc1,aB,hz1⟩:=cu h1;(try simp at hz1);(try have kD:w.heap.size<w1.heap.size:=by omega);(try have jk:w.heap.size+1<w1.heap.size:=by omega);(try have kE:w.heap.size+2<w1.heap.size:=by omega);(try have kF:w.heap.size+3<w1.heap.size:=by omega))
    ·go_ret
     go_light;have h1:l9 xs[k].1 xs[k].2=false:=by simp_all
     exact⟨_,rfl,by rw [aeB hlt h1];simp,Xt⟩
    ·have h1:l9 xs[k].1 xs[k].2=true:=by simp_all
     go_roundg (xs.length-(k+1))
     case measure=>omega
     case rel=>exact⟨k+1,by omega,by go_num,rfl,aeA hlt Hg.out h1,Xt⟩
   ·go_wp2
    go_ret;have hk2:k=xs.length:=by omega
    refine⟨_,rfl,?_,hx⟩;have:=Hg.out;rw [List.take_of_length_le (by omega)] at this;rw [this];simp
theorem aeD (a:aq) (cap:Nat) (xs:List (Int×Int)) (w:World) (hl:xs.length<=9223372036854775807) (hs:StepsIn w a xs):
 Calls prog 101 #[.slice a xs.length cap, .func (.func 102) #[] #[]] w fun e w'=>e= .returned (.bool (!pJ xs))/\Ext w w':=by
 go_enter func101,ntmps101;go_wp2_with (go_at_call 134;refine(aeC _ _ _ _ hl hs).mono ?_;rintro e w1 ⟨n,rfl,hn,h1⟩;have Hn:=ae hn;clear hn);go_ret;exact⟨dn Hn.out,Xt⟩
theorem Eg (im:ah) (a:aq) (cap:Nat) (xs:List (Int×Int)) (w:World) (hl:xs.length<=9223372036854775807) (hs:StepsIn w a xs):
 Calls prog 65 #[.agg #[.string im, .slice a xs.length cap]] w fun e w'=>e= .returned (.bool (jX im xs))/\Ext w w':=by
 go_enter func65,ntmps65;go_wp2_with (go_at_call 101;(with_reducible refine(aeD _ _ _ _ hl (hs.ext Xt)).mono ?_);rintro e w1 ⟨rfl,h1⟩;obtain⟨hc1,aB,hz1⟩:=cu h1;(try simp at hz1);(try have kD:w.heap.size<w1.heap.size:=by omega);(try have jk:w.heap.size+1<w1.heap.size:=by omega);(try have kE:w.heap.size+2<w1.heap.size:=by omega);(try have kF:w.heap.size+3<w1.heap.size:=by omega))
 all_goals go_ret
 all_goals refine⟨dn ?_,Xt⟩
 all_goals go_light
 all_goals simp only [jX]
 all_goals grind
end Go.Proofs.YtlcebdaghmdkeaaGreatDoor
namespace Go.Proofs.YtlcebdaghmdkeaaGreatDoor
open Go.Proofs.Tryz
open Go.RowKit
attribute [local go_sem↓] Go.wp_at_zero Go.wp_at_succ
theorem aef:(prog.info? 57).map (fun i=>(i.zero,i.size,i.bytes))=some (some (.agg #[.int .i64 0, .int .i64 0]),2,16):=by kernel_rfl
def qU (xs:List (Int×Int)):List Value:=xs.flatMap fun x=> [.int .i64 x.1, .int .i64 x.2]
theorem aeg (xs:List (Int×Int)):∀i,i<xs.length-> (qU xs)[i*2]? =some (.int .i64 (xs.getD i (0,0)).1)/\ (qU xs)[i*2+1]? =some (.int .i64 (xs.getD i (0,0)).2):=by
 induction xs with
 |nil=>intro i hi;simp at hi
 |cons x r ih=>
  intro i hi
  cases i with
  |zero=>simp [qU]
  |succ i=>
   have:=ih i (by simpa using hi);simp only [qU,List.flatMap_cons,List.cons_append,List.nil_append] at this⊢;rw [show (i+1)*2=i*2+1+1 from by omega,show i*2+1+1+1=(i*2+1)+1+1 from by omega];simpa using this
theorem aeh {w:World} {base:Nat} {a:aq} {n c:Nat} {xs:List (Int×Int)} (h:w.ownsRow base 57 2 (.slice a n c) n (qU xs)) (hn:xs.length=n):StepsIn w a xs:=by
 obtain⟨hl,h⟩:=h;rcases h with⟨-,h0⟩|⟨g,cap,cur,hv,hb,hg,hnc,hcm,hcs,ht⟩
 ·subst h0
  exact .inl (List.length_eq_zero_iff.1 hn)
 ·simp only [Value.slice.injEq] at hv
  obtain⟨rfl,-,rfl⟩:=hv;refine .inr ⟨g,0,rfl,fun i hi=> ?_⟩;have hx:∀j u,(qU xs)[j]? =some u->w.cell? ⟨g,j,none⟩=some u:=by
   intro j u hj;rw [cell_of_row w g j cur _ _ hg];rw [<-ht,List.getElem?_take] at hj
   split at hj
   ·simpa using hj
   ·cases hj
  obtain⟨s0,s1⟩:=aeg xs i hi;rw [Nat.zero_add];exact⟨hx _ _ s0,hx _ _ s1⟩
abbrev ur:ah:=⟨#[105,109,97,103,101]⟩
abbrev vL:ah:=⟨#[115,116,101,112,115]⟩
abbrev M8:ah:=⟨#[112,97,117,115,101]⟩
def stepOf (x:V):Option (Int×Int):=
 if x.k=5 then(match x.member M8 with
  |some p=>if p.k=2/\0<=p.n/\l9 (-1) p.n=true then some (-1,p.n) else none
  |none=>none)
 else if x.k=2/\0<=x.n/\l9 x.n 0=true then some (x.n,0) else none
def nN:List V->Option (List (Int×Int))
 | []=>some []
 |x::r=>match stepOf x,nN r with
  |some p,some l=>some (p::l)
  |_,_=>none
theorem Bv {l:List V} {k:Nat} (h:k<l.length) (hb:stepOf l[k]=none):nN l=none:=by
 induction l generalizing k with
 |nil=>simp at h
 |cons x r ih=>
  cases k with
  |zero=>simp only [List.getElem_cons_zero] at hb;simp [nN,hb]
  |succ k=>simp only [List.getElem_cons_succ] at hb;rw [nN,ih (by simpa using h) hb];cases stepOf x<;>rfl
def vM (l:List V) (k:Nat) (xs:List (Int×Int)):Prop:=xs.length=k/\∀i,(h:i<l.length)->i<k->∃p,stepOf l[i]=some p/\xs[i]? =some p
theorem vM.nil (l:List V):vM l 0 []:=⟨rfl,fun i _ h=>by omega⟩
theorem vM.snoc {l:List V} {k:Nat} {xs:List (Int×Int)} (h:vM l k xs) (hk:k<l.length) {p:Int×Int} (hp:stepOf l[k]=some p):vM l (k+1) (xs++ [p]):=by
 obtain⟨h1,h2⟩:=h;refine⟨by simp [h1],fun i hi hk'=> ?_⟩;by_cases e:i=k
 ·subst e;exact⟨p,hp,by rw [List.getElem?_append_right (by omega)];simp [h1]⟩
 ·obtain⟨q,hq,hx⟩:=h2 i hi (by omega)
  exact⟨q,hq,by rw [List.getElem?_append_left (by omega)];exact hx⟩
theorem vM.all {l:List V} {xs:List (Int×Int)} (h:vM l l.length xs):nN l=some xs:=by
 induction l generalizing xs with
 |nil=>obtain⟨h,-⟩:=h;simp at h;subst h;rfl
 |cons x r ih=>
  obtain⟨h1,h2⟩:=h;obtain⟨p,hp,hx⟩:=h2 0 (by simp) (by simp)
  cases xs with
  |nil=>simp at h1
  |cons y ys=>
   simp only [List.getElem?_cons_zero,Option.some.injEq] at hx;subst hx;simp only [List.getElem_cons_zero] at hp;rw [nN,hp,ih (xs:=ys) ⟨by simpa using h1,fun i hi hk=>by have:=h2 (i+1) (by simpa using hi) (by simpa using hi);simpa using this⟩]
theorem Ui (xs:List (Int×Int)) (a b:Int):qU (xs++ [(a,b)])=qU xs++ [.int .i64 a, .int .i64 b]:=by simp [qU]
def cy (x:V):Option (ah×List (Int×Int)):=
 if x.fine=true then(match x.member ur with
  |none=>none
  |some i=>if i.k=3/\i.s.toList≠ [] then(match x.member vL with
    |none=>some (i.s, [])
    |some t=>if t.k=4/\t.l.length<=8 then(match nN t.l with
      |some xs=>some (i.s,xs)
      |none=>none) else none)
   else none)
 else none
def uo (r:Option (ah×List (Int×Int))) (w:World) (e:Ending) (w':World):Prop:=
 (∃im xs a n c,r=some (im,xs)/\xs.length=n/\e= .returned (.tuple #[.agg #[.string im, .slice a n c], .int .i64 0])/\StepsIn w' a xs/\ (∀p:Addr,a=some p->w.heap.size<=p.block)/\Ext w w')\/
 (r=none/\e= .returned (.tuple #[.agg #[.string ⟨#[]⟩, .slice none 0 0], .int .i64 1])/\Ext w w')
theorem Uj {x y:V} {key:ah} (h:x.member key=some y):y.size<x.size:=by
 obtain⟨j,a,rfl⟩:=Rl h;exact V.qi a.lt
def kC (r:Option (ah×List (Int×Int))):ah:=match r with|some p=>p.1|none=>⟨#[]⟩
def fK (r:Option (ah×List (Int×Int))):List (Int×Int):=match r with|some p=>p.2|none=> []
def xw (r:Option (ah×List (Int×Int))):Int:=match r with|some _=>0|none=>1
def vJ (im:ah) (xs:List (Int×Int)):St:=if jX im xs then⟨im,im,1,0,100,0⟩ else⟨⟨#[]⟩,⟨#[]⟩,0,0,0,0⟩
def M6 (im:ah) (xs:List (Int×Int)):Int:=if jX im xs then 0 else 1
end Go.Proofs.YtlcebdaghmdkeaaGreatDoor
