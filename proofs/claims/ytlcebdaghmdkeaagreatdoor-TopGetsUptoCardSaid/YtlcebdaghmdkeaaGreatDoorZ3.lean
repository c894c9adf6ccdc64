import Derived.Lib.ReplaceLaws
import Derived.Laws.Concat
import Derived.Lib.SliceRun
import Derived.Lib.Overlaps
import Derived.Lib.AppendZerosOnto
import Derived.Laws.CopyRow
import Derived.Laws.Externs
import Derived.Deep.RegionLaw
import Derived.Lib.JoinLaws
import Derived.Test.YtlcebdaghmdkeaaGreatDoorZ1
import Derived.Test.YtlcebdaghmdkeaaGreatDoorShelf
set_option linter.all false
set_option maxRecDepth 100000
set_option maxHeartbeats 64000000
namespace Go.Proofs.YtlcebdaghmdkeaaGreatDoor
open Go.Proofs.Tryz
open Go.RowKit
def fW (w:World):Prop:=∃m,w.cell? ⟨0,0,none⟩=some (.int .i64 m)
theorem fW.ext {w w':World} (h:fW w) (e:Ext w w'):fW w':=by obtain⟨m,hm⟩:=h;exact⟨m,e.cell hm⟩
theorem E9 (s old new:List UInt8) (ho:old≠ []) (hne:(old==new)=false):(Lib.replaceAll s old new).length<=s.length*(1+new.length):=by
 have h:∀(n:Nat) (s:List UInt8),s.length<=n-> (Lib.replaceAll s old new).length<=s.length*(1+new.length):=by
  intro n
  induction n with
  |zero=>intro s hs;obtain rfl:=List.eq_nil_of_length_eq_zero (Nat.le_zero.1 hs);rw [wQ ho];simp
  |succ n ih=>
   intro s hs
   cases s with
   |nil=>rw [wQ ho];simp
   |cons b l=>
    simp only [List.length_cons] at hs
    cases hp:old.isPrefixOf (b::l) with
    |true=>
     rw [KM ho hne hp];have hol:0<old.length:=List.length_pos_iff.2 ho;have h1:((b::l).drop old.length).length<=l.length:=by simp;omega
     have h2:=ih ((b::l).drop old.length) (by omega);have h3:((b::l).drop old.length).length*(1+new.length)<=l.length*(1+new.length):=Nat.mul_le_mul_right _ h1;simp only [List.length_append,List.length_cons];rw [Nat.succ_mul];omega
    |false=>
     rw [Ge ho hne hp];have h2:=ih l (by omega);simp only [List.length_cons];rw [Nat.succ_mul];omega
 exact h _ s (Nat.le_refl _)
theorem Gq (s:ah) (old new:List UInt8) (ho:old≠ []) (hne:(old==new)=false) (hn:new.length<=2) (hs:s.size<=1073741824) (w:World) (hm:fW w):
 Calls prog 122 #[.string s, .string ⟨old.toArray⟩, .string ⟨new.toArray⟩] w fun e w'=>e= .returned (.string ⟨(Lib.replaceAll s.data.toList old new).toArray⟩)/\Ext w w':=by
 obtain⟨m,hm⟩:=hm;have hol:0<old.length:=List.length_pos_iff.2 ho;have h1:1<= (⟨old.toArray⟩:ah).size:=by simp [ByteArray.size];omega
 have h2:Lib.countB s ⟨old.toArray⟩<=s.size:=Lib.countB_le _ h1 _ _ (Nat.le_refl _);have h3:(⟨new.toArray⟩:ah).size<=2:=by simpa [ByteArray.size] using hn
 have h4:Lib.countB s ⟨old.toArray⟩*(⟨new.toArray⟩:ah).size<=s.size*2:=Nat.mul_le_mul h2 h3;refine(Tryz.strings_ReplaceAll s ⟨old.toArray⟩ ⟨new.toArray⟩ m w (by omega) hm h1 (by omega)).mono ?_;rintro e w' ⟨rfl,h⟩;exact⟨rfl,h⟩
theorem K3 (l:List UInt8):(⟨l.toArray⟩:ah).size=l.length:=by simp [ByteArray.size]
theorem aac (s:List UInt8):(Lib.replaceAll s [126,49] [47]).length<=s.length*2:=E9 s _ _ (by simp) (by decide)
theorem aad (s:List UInt8):(Lib.replaceAll s [126] [126,48]).length<=s.length*3:=E9 s _ _ (by simp) (by decide)
theorem aae (r:List UInt8) (hs:r.length<=1073741824) (w:World) (hm:fW w):
 Calls prog 121 #[.string ⟨r.toArray⟩, .string ⟨#[47]⟩] w fun e w'=>∃ps:List ah,ps.map (·.data.toList)=Lib.split r [47]/\e= .returned (.slice (some ⟨w.heap.size,0,none⟩) ps.length ps.length)/\w'=w.alloc (.cells (ps.map Value.string).toArray 9):=by
 obtain⟨m,hm⟩:=hm;refine(Tryz.strings_Split ⟨r.toArray⟩ ⟨#[47]⟩ m w (by rw [K3];omega) hm (by decide)).mono ?_;rintro e w' ⟨rfl,rfl⟩;have hl:=Lib.splitB_all ⟨#[47]⟩ (by decide) 0 _ ⟨r.toArray⟩ rfl;refine⟨_,?_,by rw [hl],rfl⟩;rw [Lib.splitB_data];simp [Lib.split,Lib.countB]
def Gr (r:Option (List (List UInt8))) (w:World) (e:Ending) (w':World):Prop:=
 (∃l a n c ks,r=some l/\e= .returned (.tuple #[.slice a n c, .int .i64 0])/\ks.length=n/\ks.map (·.data.toList)=l/\aO a n c/\bT w' (fun b=>w.heap.size<=b) a ks/\Ext w w')\/
 (r=none/\e= .returned (.tuple #[.slice none 0 0, .int .i64 1])/\Ext w w')
def rT (s:List UInt8) (i:Nat):Prop:=s[i]? =some 126-> (s[i+1]? =some 48\/s[i+1]? =some 49)
theorem aaf (x:UInt8) (r:List UInt8):lS (x::r)=((x !=126||(match r with|c::_=>c==48||c==49| []=>false))&&lS r):=by
 cases r<;>rfl
theorem K4 (s:List UInt8):lS s=true↔∀i,rT s i:=by
 induction s with
 |nil=>simp [lS,rT]
 |cons x r ih=>
  rw [aaf,Bool.and_eq_true,ih];constructor
  ·rintro⟨h1,h2⟩ i
   cases i with
   |zero=>
    intro hx;simp only [List.getElem?_cons_zero,Option.some.injEq] at hx;subst hx
    cases r with
    |nil=>simp at h1
    |cons c t=>simpa [rT] using h1
   |succ i=>simpa [rT] using h2 i
  ·intro h
   refine⟨?_,fun i=>by simpa [rT] using h (i+1)⟩;have h0:=h 0;by_cases hx:x=126
   ·subst hx
    have:=h0 rfl
    cases r with
    |nil=>simp at this
    |cons c t=>simpa using this
   ·simp [hx]
theorem aag {p:ah} (h:p.data.toList≠ []) (hb:¬(Lib.hasPrefix p.data.toList [47]=true/\p.size<=2000)):kj p.data.toList=none:=by
 unfold kj
 cases hp:p.data.toList with
 |nil=>exact absurd hp h
 |cons c r=>
  have hsz:p.size=(c::r).length:=by rw [<-hp];exact Array.length_toList.symm
  simp only;rw [if_neg];rintro⟨rfl,h2⟩;refine hb ⟨?_,by omega⟩;rw [hp];simp [Lib.hasPrefix,List.isPrefixOf]
theorem aah (p:ah) (w:World) (h0:p.data.toList= []\/ (p.data.toList≠ []/\¬(Lib.hasPrefix p.data.toList [47]=true/\p.size<=2000))):
 Calls prog 84 #[.string p] w (Gr (kj p.data.toList) w):=by
 rcases h0 with h|⟨h,hb⟩
 ·have hp:p=⟨#[]⟩:=by obtain⟨⟨l⟩⟩:=p;simp only at h;subst h;rfl
  subst hp;go_enter func84,ntmps84;go_wp2_with fail;go_ret2;exact .inl ⟨[],none,0,0, [],rfl,rfl,rfl,rfl,aO.nil, .inl rfl,Xt⟩
 ·have hn:=aag h hb
  have h1:p.toList.isEmpty=false:=by rw [ByteArray.toList_eq];cases hq:p.data.toList with|nil=>exact absurd hq h|cons=>rfl
  have h2:¬p.toList= []:=by rw [ByteArray.toList_eq];exact h
  rw [hn];clear hn
  cases hx:Lib.hasPrefix p.data.toList [47]
  ·have qF:∀w,Calls prog 120 #[.string p, .string ⟨#[47]⟩] w fun e w'=>∃q,e= .returned (.tuple #[.string q, .bool false])/\w'=w:=fun w=>by
    have hx':Lib.hasPrefix p.data.toList (⟨#[47]⟩:ah).data.toList=false:=hx;refine(Tryz.strings_CutPrefix p ⟨#[47]⟩ w).mono ?_;rintro e w' ⟨rfl,rfl⟩;exact⟨⟨(Lib.trimPrefix p.data.toList (⟨#[47]⟩:ah).data.toList).toArray⟩,by rw [hx'],rfl⟩
   clear hb hx;go_enter func84,ntmps84;go_wp2_with (go_at_call 120;refine(qF _).mono ?_;rintro e w1 ⟨q,rfl,rfl⟩);go_ret2;exact .inr ⟨rfl,rfl,Xt⟩
  ·have qF:∀w,Calls prog 120 #[.string p, .string ⟨#[47]⟩] w fun e w'=>∃q,e= .returned (.tuple #[.string q, .bool true])/\w'=w:=fun w=>by
    have hx':Lib.hasPrefix p.data.toList (⟨#[47]⟩:ah).data.toList=true:=hx;refine(Tryz.strings_CutPrefix p ⟨#[47]⟩ w).mono ?_;rintro e w' ⟨rfl,rfl⟩;exact⟨⟨(Lib.trimPrefix p.data.toList (⟨#[47]⟩:ah).data.toList).toArray⟩,by rw [hx'],rfl⟩
   have hs:(2000:Int)<(p.size:Int):=by have:¬p.size<=2000:=fun h=>hb ⟨hx,h⟩;omega
   clear hb hx;go_enter func84,ntmps84;go_wp2_with (go_at_call 120;refine(qF _).mono ?_;rintro e w1 ⟨q,rfl,rfl⟩);go_ret2;exact .inr ⟨rfl,rfl,Xt⟩
theorem OL (s:List UInt8):(Lib.split s [47]).length<=s.length+1:=by
 induction s with
 |nil=>rw [Df];simp
 |cons b l ih=>
  by_cases h:b=47
  ·subst h;rw [Dg];simp only [List.length_cons];omega
  ·rw [AP h]
   cases hs:Lib.split l [47] with
   |nil=>simp [ahead]
   |cons p ps=>rw [hs] at ih;simp only [ahead,List.length_cons] at ih⊢;omega
theorem OM (s:List UInt8):∀q∈Lib.split s [47],q.length<=s.length:=by
 induction s with
 |nil=>rw [Df];simp
 |cons b l ih=>
  by_cases h:b=47
  ·subst h;rw [Dg]
   intro q hq;rcases List.mem_cons.1 hq with rfl|hq
   ·simp
   ·have:=ih q hq;simp only [List.length_cons];omega
  ·rw [AP h]
   cases hs:Lib.split l [47] with
   |nil=>simp [ahead]
   |cons p ps=>
    rw [hs] at ih;intro q hq;simp only [ahead,List.mem_cons] at hq;rcases hq with rfl|hq
    ·have:=ih p (by simp);simp only [List.length_cons];omega
    ·have:=ih q (by simp [hq]);simp only [List.length_cons];omega
theorem aai (r:List UInt8) (h:(47::r:List UInt8).length<=2000):kj (47::r)=if(Lib.split r [47]).all lS=true then some ((Lib.split r [47]).map mU) else none:=by
 unfold kj;simp only;rw [if_pos ⟨trivial,h⟩]
theorem K5 {q:ah} {j:Nat} (h:j<q.size):q.data.toList[j]? =some q[j]:=by
 rw [List.getElem?_eq_getElem (by simpa using h)];rfl
theorem rU {c:UInt8} {n:Nat} (hn:n<256) (h:(c.toNat:Int)=n):c=UInt8.ofNat n:=by
 apply UInt8.toNat_inj.1;simp;omega
theorem aaj (p:ah) (r:List UInt8) (hp:p.data.toList=47::r) (hs:p.size<=2000) (w:World) (hm:fW w):Calls prog 84 #[.string p] w (Gr (kj p.data.toList) w):=by
 have hsz:p.size=r.length+1:=by have:p.size=p.data.toList.length:=Array.length_toList.symm;rw [this,hp];rfl
 have Ax:=aai r (by simp;omega);rw [<-hp] at Ax;have Hn:=ae Ax;have qF:∀w,Calls prog 120 #[.string p, .string ⟨#[47]⟩] w fun e w'=>e= .returned (.tuple #[.string ⟨r.toArray⟩, .bool true])/\w=w':=fun w=>by
  have hx:Lib.hasPrefix p.data.toList (⟨#[47]⟩:ah).data.toList=true:=by rw [hp];simp [Lib.hasPrefix,List.isPrefixOf]
  refine(Tryz.strings_CutPrefix p ⟨#[47]⟩ w).mono ?_;rintro e w' ⟨rfl,rfl⟩;have ht:Lib.trimPrefix p.data.toList (⟨#[47]⟩:ah).data.toList=r:=by rw [Lib.trimPrefix,if_pos hx,hp];rfl
  exact⟨by rw [hx,ht],rfl⟩
 have h1:p.toList.isEmpty=false:=by rw [ByteArray.toList_eq,hp];rfl
 have h2:¬p.toList= []:=by rw [ByteArray.toList_eq,hp];simp
 have hs1:¬(2000:Int)<(p.size:Int):=by omega
 have hs2:(p.size:Int)<=2000:=by omega
 obtain⟨i0,hi,hz0,hz1,aak⟩:=info_parts Tryz.wU;clear Ax hp;go_enter func84,ntmps84
 go_wp2_with (first
  |(go_at_call 120;refine(qF _).mono ?_;rintro e w1 ⟨rfl,rfl⟩)
  |(go_at_call 121;refine(aae r (by omega) _ (hm.ext Xt)).mono ?_;rintro e w1 ⟨ps,hps,rfl,rfl⟩))
 refine aI (R:=fun wx=>af wx w.heap.size (ps.map Value.string).toArray 9/\Ext w wx) ⟨aj,Xt⟩ ?_;rintro wx ⟨hB,hx⟩;have hmx:=hm.ext hx;have hpl:ps.length<=2000:=by have h:=OL r;rw [<-hps] at h;simp only [List.length_map] at h;omega
 have yK:∀i (h:i<ps.length),(ps[i]).size<=2000:=by intro i h;have h3:=OM r (ps[i]).data.toList (by rw [<-hps];exact List.mem_map_of_mem (List.getElem_mem h));have h4:(ps[i]).size=(ps[i]).data.toList.length:=Array.length_toList.symm;omega
 have hcell:∀i (h:i<ps.length),wx.cell? ⟨w.heap.size,i,none⟩=some (.string ps[i]):=by intro i h;rw [hB.cells i];simp [h]
 have nz:=ae hps;clear hps hB hm qF h1 h2 hs1 hs2
 go_loopg [6,8,9,27] ps.length (fun g t6 _ _ i wr=>∃(k:Nat) (a2:aq) (c2:Nat) (ks:List ah),k<=ps.length/\i= .int .i64 k/\g=ps.length-k/\t6= .slice a2 k c2/\
  (∀i (h:i<ps.length),i<k->lS (ps[i]).data.toList=true)/\ks.map (·.data.toList)=(ps.take k).map (fun q=>mU q.data.toList)/\wr.ownsRow wx.heap.size 9 1 (.slice a2 k c2) k (ks.map Value.string)/\Ext wx wr)
 case atStart=>exact⟨0,none,0, [],by omega,rfl,rfl,rfl,fun i _ h=>by omega,by simp,World.ownsRow_nil _ _ _ _,Ext.refl _⟩
 case round=>
  obtain⟨k,a2,c2,ks,hk,rfl,rfl,rfl,htl,hks,hown,kT⟩:=hrel;have AE:=ae htl;have Dl:=ae hks;have ck:=ae hown;clear htl hks hown;by_cases hlt:k<ps.length
  ·have d0:=kT.cell (hcell k hlt)
   have yf:=yK k hlt;clear hcell yK;obtain⟨q,hq⟩:∃q,ps[k]=q:=⟨_,rfl⟩;rw [hq] at d0 yf;have Hq:=ae hq;clear hq;have hmr:=hmx.ext kT;go_wp2_with fail
   go_loopg [9,33] q.size (fun g _ i wi=>∃j:Nat,j<=q.size/\i= .int .i64 j/\g=q.size-j/\ (∀i,i<j->rT q.data.toList i)/\wi=wr)
   case atStart=>exact⟨0,Nat.zero_le _,rfl,rfl,fun i h=>by omega,rfl⟩
   case round=>
    obtain⟨j,hj,rfl,rfl,Rv,rfl⟩:=hrel;have Gs:=ae Rv;clear Rv;by_cases hjl:j<q.size
    ·have b0:=K5 hjl
     by_cases c:(q[j].toNat:Int)=126
     ·have cb:((q[j].toNat:Int)==126)=true:=by simpa using c
      have Rw:q.data.toList[j]? =some 126:=by rw [b0,rU (n:=126) (by omega) c];rfl
      by_cases e:j+1<q.size
      ·have b1:=K5 e
       have e1:((j:Int)+1==(q.size:Int))=false:=by simp;omega
       by_cases z:(q[j+1].toNat:Int)=48
       ·have zb:((q[j+1].toNat:Int)==48)=true:=by simpa using z
        have zc:((q[j+1].toNat:Int) !=48)=false:=by simpa using z
        have Hg:=ae (show rT q.data.toList j from fun _=> .inl (by rw [b1,rU (n:=48) (by omega) z];rfl));go_wp2_with fail;go_roundg (q.size-(j+1))
        case measure=>omega
        case rel=>exact⟨j+1,by omega,by go_num,rfl,fun i h=>by
         by_cases hij:i=j
         ·subst hij;exact Hg.out
         ·exact Gs.out i (by omega),rfl⟩
       ·have zb:((q[j+1].toNat:Int)==48)=false:=by simpa using z
        have zc:((q[j+1].toNat:Int) !=48)=true:=by simpa using z
        by_cases o:(q[j+1].toNat:Int)=49
        ·have ob:((q[j+1].toNat:Int)==49)=true:=by simpa using o
         have oc:((q[j+1].toNat:Int) !=49)=false:=by simpa using o
         have Hg:=ae (show rT q.data.toList j from fun _=> .inr (by rw [b1,rU (n:=49) (by omega) o];rfl));go_wp2_with fail;go_roundg (q.size-(j+1))
         case measure=>omega
         case rel=>exact⟨j+1,by omega,by go_num,rfl,fun i h=>by
          by_cases hij:i=j
          ·subst hij;exact Hg.out
          ·exact Gs.out i (by omega),rfl⟩
        ·have ob:((q[j+1].toNat:Int)==49)=false:=by simpa using o
         have oc:((q[j+1].toNat:Int) !=49)=true:=by simpa using o
         have Hb:=ae (show¬rT q.data.toList j from fun h=>by
          rcases h Rw with h|h
          ·rw [b1] at h;simp only [Option.some.injEq] at h;rw [h] at z;exact z rfl
          ·rw [b1] at h;simp only [Option.some.injEq] at h;rw [h] at o;exact o rfl)
         go_wp2_with fail;go_ret2;refine .inr ⟨?_,rfl,Xt⟩;rw [Hn.out,if_neg];intro h;have h1:=List.all_eq_true.1 h q.data.toList (by rw [<-nz.out];exact List.mem_map_of_mem (by rw [<-Hq.out];exact List.getElem_mem hlt));exact Hb.out ((K4 _).1 h1 j)
      ·have e1:((j:Int)+1==(q.size:Int))=true:=by simp;omega
       have Hb:=ae (show¬rT q.data.toList j from fun h=>by
        have:q.data.toList[j+1]? =none:=List.getElem?_eq_none (by rw [Array.length_toList];exact Nat.le_of_not_lt e)
        rcases h Rw with h|h<;>rw [this] at h<;>cases h)
       go_wp2_with fail;go_ret2;refine .inr ⟨?_,rfl,Xt⟩;rw [Hn.out,if_neg];intro h;have h1:=List.all_eq_true.1 h q.data.toList (by rw [<-nz.out];exact List.mem_map_of_mem (by rw [<-Hq.out];exact List.getElem_mem hlt));exact Hb.out ((K4 _).1 h1 j)
     ·have cb:((q[j].toNat:Int)==126)=false:=by simpa using c
      have Hg:=ae (show rT q.data.toList j from fun h=>by rw [b0] at h;simp only [Option.some.injEq] at h;rw [h] at c;exact absurd rfl c);go_wp2_with fail;go_roundg (q.size-(j+1))
      case measure=>omega
      case rel=>exact⟨j+1,by omega,by go_num,rfl,fun i h=>by
       by_cases hij:i=j
       ·subst hij;exact Hg.out
       ·exact Gs.out i (by omega),rfl⟩
    ·obtain rfl:j=q.size:=by omega
     have hall:lS q.data.toList=true:=(K4 _).2 fun i=>by
      by_cases h:i<q.size
      ·exact Gs.out i h
      ·intro h2
       rw [List.getElem?_eq_none (by rw [Array.length_toList];exact Nat.le_of_not_lt h)] at h2
       cases h2
     have wJ:=ae hall;clear hall;have h5:=aac q.data.toList;have h6:q.data.toList.length=q.size:=Array.length_toList;go_wp2_with fail;(refine(Gq q [126,49] [47] (by simp) (by decide) (by simp) (by omega) _ (hmr.ext Xt)).mono ?_);rintro e w1 ⟨rfl,h1⟩;go_wp2_with fail;(refine(Gq ⟨(Lib.replaceAll q.data.toList [126,49] [47]).toArray⟩ [126,48] [126] (by simp) (by decide) (by simp) (by rw [K3];omega) _ (hmr.ext Xt)).mono ?_);rintro e w2 ⟨rfl,h2⟩;obtain⟨nm,eG⟩:∃nm:ah,(⟨(Lib.replaceAll (⟨(Lib.replaceAll q.data.toList [126,49] [47]).toArray⟩:ah).data.toList [126,48] [126]).toArray⟩:ah)=nm:=⟨_,rfl⟩;have Gt:nm.data.toList=mU q.data.toList:=by rw [<-eG];rfl
     rw [eG];have hx2:Ext wr w2:=Xt;have dL:=ae (eT ck.out hx2);have hz2:=hx2.size;have hz3:=kT.size;go_wp2_with ((at_builtin;refine wpList_append_lies _ (by rfl) _ _ 38 (by rfl) wx.heap.size 9 i0 _ 1 16 underlying38 hi hz0 hz1 aak rfl (by decide) (.slice a2 k c2) k (ks.map Value.string) (by rfl) (dL.out.alloc _) ⟨w2.heap.size,0,none⟩ 1 1 [.string nm] (by rfl) (by rfl) (World.news_of_block (cs:= #[.string nm]) (t:=9) (fr:=(0,0)) (heap_alloc_new w2 _)) (by simp [Value.oneCell']) (by omega) (by unfold maxLen;omega) (by omega) (by simp;omega) _ rfl ?_;intro g6 bA w6 bF aY cp tY;have iP:=ae aY;have gZ:=ae bF;clear aY bF cp));have bS:Ext wx w6:=Ext.grown (b:=w2.alloc _) Xt iP.out (fun g hg=>by have:=(ck.out.lt g hg).1;omega);go_roundg (ps.length-(k+1))
     case measure=>omega
     case rel=>
      refine⟨k+1,_,_,ks++ [nm],by omega,by go_num,rfl,rfl,fun i h hik=> ?_,?_,?_,Xt⟩
      ·by_cases e:i=k
       ·subst e;rw [Hq.out];exact wJ.out
       ·exact AE.out i h (by omega)
      ·rw [List.map_append,Dl.out,List.take_succ_eq_append_getElem hlt,List.map_append]
       simp only [List.map_cons,List.map_nil,Gt,Hq.out]
      ·rw [List.map_append];exact gZ.out
  ·obtain rfl:k=ps.length:=by omega
   have hkl:ks.length=ps.length:=by have:=congrArg List.length Dl.out;simpa using this
   go_wp2_with fail;go_ret2;obtain⟨a4,c4,cU,AV,-,hst⟩:=ek.strs (base:=wx.heap.size) (ks:=ks) ⟨hkl,ck.out⟩;simp only [Value.slice.injEq,true_and] at cU;obtain⟨rfl,rfl⟩:=cU;refine .inl ⟨_,a2,ps.length,c2,ks,?_,rfl,hkl,rfl,AV,hst.keep (fun _ _ _=>rfl) (fun b h _=>by have:=hx.size;omega),Xt⟩;rw [Hn.out,if_pos,Dl.out,List.take_of_length_le (Nat.le_refl _),<-nz.out,List.map_map]
   ·rfl
   ·rw [<-nz.out,List.all_eq_true]
    intro x hx;obtain⟨q,hq,rfl⟩:=List.mem_map.1 hx;obtain⟨i,hi,rfl⟩:=List.getElem_of_mem hq;exact AE.out i hi hi
theorem OP (p:ah) (hs:p.size<=1073741824) (w:World) (hm:fW w):Calls prog 84 #[.string p] w (Gr (kj p.data.toList) w):=by
 by_cases h:Lib.hasPrefix p.data.toList [47]=true/\p.size<=2000
 ·cases hp:p.data.toList with
  |nil=>rw [hp] at h;simp [Lib.hasPrefix,List.isPrefixOf] at h
  |cons c r=>
   have hc:c=47:=by have:=h.1;rw [hp] at this;simp [Lib.hasPrefix,List.isPrefixOf] at this;exact this.symm
   subst hc;rw [<-hp];exact aaj p r hp h.2 w hm
 ·refine aah p w ?_
  by_cases h0:p.data.toList= []
  ·exact .inl h0
  ·exact .inr ⟨h0,h⟩
theorem aal (ks:List ah) {k:Nat} (h:k<ks.length):joinL ((ks.take (k+1)).map (·.data.toList))=joinL ((ks.take k).map (·.data.toList))++47::lC (ks[k]).data.toList:=by
 unfold joinL;rw [List.take_succ_eq_append_getElem h,List.map_append,List.flatMap_append];simp only [List.map_cons,List.map_nil,List.flatMap_cons,List.flatMap_nil,List.append_nil]
theorem aam (a:aq) (n c:Nat) (ks:List ah) (S:aA) (w:World) (hks:bT w S a ks) (hn:ks.length=n) (hz:∀i (h:i<ks.length),(ks[i]).size<=2000000) (kO:n<=2000000) (hm:fW w):
 Calls prog 112 #[.slice a n c] w fun e w'=>∃s:ah,e= .returned (.string s)/\s.data.toList=joinL (ks.map (·.data.toList))/\Ext w w':=by
 subst hn;go_enter func112,ntmps112;go_wp2_with fail
 go_loopg [3,5,8] ks.length (fun g t3 _ i wr=>∃(k:Nat) (s:ah),k<=ks.length/\i= .int .i64 k/\g=ks.length-k/\t3= .string s/\s.data.toList=joinL ((ks.take k).map (·.data.toList))/\s.size<=k*4000001/\Ext w wr)
 case atStart=>exact⟨0,⟨#[]⟩,by omega,rfl,rfl,rfl,rfl,by decide,Ext.refl _⟩
 case round=>
  obtain⟨k,s,hk,rfl,rfl,rfl,hs,Gu,hx⟩:=hrel;have Hs:=ae hs;clear hs;by_cases hlt:k<ks.length
  ·obtain⟨b,o,rfl,hS,hc⟩:=hks.resolve_left (by intro h;rw [h] at hlt;simp at hlt)
   have d0:=hx.cell (hc k hlt);have hz1:=hz k hlt;have Hj:=ae (aal ks hlt);clear hc hz;obtain⟨q,hq⟩:∃q,ks[k]=q:=⟨_,rfl⟩;rw [hq] at d0 hz1 Hj;clear hq;have h5:=aad q.data.toList;have h6:q.data.toList.length=q.size:=Array.length_toList;go_wp2_with fail;(refine(Gq q [126] [126,48] (by simp) (by decide) (by simp) (by omega) _ (hm.ext Xt)).mono ?_);rintro e w1 ⟨rfl,h1⟩;go_wp2_with fail;(refine(Gq ⟨(Lib.replaceAll q.data.toList [126] [126,48]).toArray⟩ [47] [126,49] (by simp) (by decide) (by simp) (by rw [K3];omega) _ (hm.ext Xt)).mono ?_);rintro e w2 ⟨rfl,h2⟩;obtain⟨nm,eG⟩:∃nm:ah,(⟨(Lib.replaceAll (⟨(Lib.replaceAll q.data.toList [126] [126,48]).toArray⟩:ah).data.toList [47] [126,49]).toArray⟩:ah)=nm:=⟨_,rfl⟩;have Gt:nm.data.toList=lC q.data.toList:=by rw [<-eG];rfl
   rw [eG];have hnz:nm.size<=4000000:=by have e1:=QR q.data.toList;have e2:nm.size=nm.data.toList.length:=Array.length_toList.symm;rw [Gt] at e2;omega
   have hk2:k*4000001<=2000000*4000001:=Nat.mul_le_mul_right _ (by omega);have c1:¬(⟨#[47]⟩:ah).size+nm.size>9223372036854775807:=by have:(⟨#[47]⟩:ah).size=1:=rfl;omega
   have e3:((⟨#[47]⟩:ah)++nm).size=1+nm.size:=by rw [ByteArray.size_append];rfl
   have c2:¬s.size+((⟨#[47]⟩:ah)++nm).size>9223372036854775807:=by rw [e3];omega
   go_wp2_with fail;go_roundg (ks.length-(k+1))
   case measure=>omega
   case rel=>exact⟨k+1,_,by omega,by go_num,rfl,rfl,by rw [Hj.out,<-Hs.out,<-Gt];simp,by rw [ByteArray.size_append,e3,Nat.succ_mul];omega,Xt⟩
  ·obtain rfl:k=ks.length:=by omega
   go_wp2_with fail;go_ret;exact⟨s,rfl,by rw [Hs.out,List.take_length],Xt⟩
section
variable {P:Program}
theorem nD (w:World) (dT sT ty elem:TypeId) (K g o dLen dCap:Nat) (a:Addr) (sLen sCap:Nat) (cur:Array Value) (t:TypeId) (cs:List Value) (m:Nat)
 (hu:P.underlying dT=some (.slice elem)) (hs:(P.info? elem).map (·.size)=some K) (hm:Nat.min sLen dLen=m)
 (hg:w.heap[g]? =some (.cells cur t (0,0))) (hn:cs.length=m*K)
 (hsrc:∀j v,cs[j]? =some v->w.cell? (a.add j)=some v) (hfit:o+cs.length<=cur.size) (h1:∀v∈cs,v.oneCell'=true):
 (Builtin.copy_ #[dT,sT] ty #[.slice (some ⟨g,o,none⟩) dLen dCap, .slice (some a) sLen sCap]).run P w=
  .ok (goInt m) (w.setRow g (cur.toList.take o++cs++cur.toList.drop (o+cs.length)).toArray):=by
 subst hm;have hl:=run_firstCells_some (P:=P) w K (Nat.min sLen dLen) a sLen sCap cs hn hsrc;have hst:=run_storeCells_at P g o t cs 0 cur w hg (by simpa using hfit) h1;simp only [Nat.add_zero] at hst
 cases hq:P.info? elem with
 |none=>simp [hq] at hs
 |some i=>
  have hi:i.size=K:=by simpa [hq] using hs
  simp [Builtin.copy_,run_underlying hu,Builtin.lenOf,sizeOf,typeInfo,hq,hi,hl,hst]
theorem aan (z:Array Value):(Builtin.zeroCells z 1).toList=z.toList:=by
 simp [Builtin.zeroCells];apply List.ext_getElem
 ·simp
 ·intro i h1 h2
  have h:i<z.size:=by simpa using h2
  simp [Nat.mod_eq_of_lt h,h]
theorem Ji (w:World) (t e ty:TypeId) (z:Value) (ht:P.underlying t=some (.slice e)) (hv:∀w,(zeroValue e).run P w= .ok z w) (h1:∀u∈z.cells.toList,u.oneCell'=true) (g o c:Nat) (cur:Array Value) (T:TypeId)
 (hg:w.heap[g]? =some (.cells cur T (0,0))) (hfit:o+z.cells.size<=cur.size):
 (Builtin.clear_ #[t] ty #[.slice (some ⟨g,o,none⟩) 1 c]).run P w= .ok (.tuple #[]) (w.setRow g (cur.toList.take o++z.cells.toList++cur.toList.drop (o+z.cells.size)).toArray):=by
 have hst:=run_storeCells_at P g o T z.cells.toList 0 cur w hg (by simpa using hfit) h1;simp only [Nat.add_zero,Array.length_toList] at hst;simp [Builtin.clear_,run_underlying ht,hv,aan,hst]
theorem z6 {ops:Array Oper} {o:Oper} {a:Act} {w:World} {K:Act->World->Prop} {Q:Exit->Act->World->Prop} {E:Prop}
 (hg:o.guard=none) (d x:Operand) (dT sT:TypeId) (hop:o.op=Op.call {callee:=Callee.builtin Builtin.append,args:= #[d,x],argTypes:= #[dT,sT]})
 (v u:Value) (hd:a.eval d=v) (hx:a.eval x=u) {v':Value} {w':World} (hr:(Builtin.append_ #[dT,sT] o.type #[v,u]).run P w= .ok v' w') (hK:K (a.put o.dst v') w'):
 if Region.wanted o (yielded ops a.tmps)=true then Oper.wp P o a w K Q else E:=by
 have hw:Region.wanted o (yielded ops a.tmps)=true:=by simp [Region.wanted,hg]
 rw [if_pos hw];unfold Oper.wp;simp [execOp,hop,resolve,invoke,builtin,hd,hx,hr,Result.andThen];exact hK
end
theorem tZ {w:World} {base e K:Nat} {v:Value} {n:Nat} {xs:List Value} (h:w.ownsRow base e K v n xs) (hn:0<n):
 ∃g cap cur,v= .slice (some ⟨g,0,none⟩) n cap/\base<=g/\w.heap[g]? =some (.cells cur e (0,0))/\n<=cap/\cap<=maxLen/\cur.size=cap*K/\cur.toList.take (n*K)=xs:=by
 rcases h.2 with⟨-,h0⟩|h
 ·omega
 ·exact h
theorem rh {w:World} {base e K g n cap:Nat} {cur:Array Value} {xs:List Value} (hb:base<=g) (hg:w.heap[g]? =some (.cells cur e (0,0))) (hn:n<=cap) (hm:cap<=maxLen) (hs:cur.size=cap*K) (ht:cur.toList.take (n*K)=xs):
 w.ownsRow base e K (.slice (some ⟨g,0,none⟩) n cap) n xs:=by
 refine⟨?_, .inr ⟨g,cap,cur,rfl,hb,hg,hn,hm,hs,ht⟩⟩;rw [<-ht,List.length_take,Array.length_toList,hs];have:=Nat.mul_le_mul_right K hn;omega
theorem jH (w:World) (g:Nat) (cs:Array Value):w.grownBy (w.setRow g cs) (some g):=
 ⟨rfl,rfl,rfl,by simp,fun k _ hk=>setRow_other w g k cs (fun e=>hk (by rw [e]))⟩
theorem nV {w w':World} {r:Option Nat} (h:w.drew.grownBy w' r):w.grownBy w' r:=⟨h.os,h.tape,h.output,h.size,h.block⟩
theorem rq {a b c:World} {r:Option Nat} (h:a.grownBy b r) (k:b.grownBy c r):a.grownBy c r:=
 ⟨k.os.trans h.os,k.tape.trans h.tape,k.output.trans h.output,Nat.le_trans h.size k.size,fun i hi hr=>(k.block i (Nat.lt_of_lt_of_le hi h.size) hr).trans (h.block i hi hr)⟩
theorem Gv {α:Type} (cur:List α) (new:List α) (a b:Nat) (hab:a<=b) (hb:b+new.length<=cur.length) (cs:List α) (hcs:cs=(cur.take b).drop a):
 let c1:=cur.take (a+new.length)++cs++cur.drop (a+new.length+cs.length)
 (c1.take a++new++c1.drop (a+new.length)).take (b+new.length)=(cur.take b).take a++new++(cur.take b).drop a/\ (c1.take a++new++c1.drop (a+new.length)).length=cur.length/\c1.length=cur.length:=by
 subst hcs;intro c1;have hl:((cur.take b).drop a).length=b-a:=by simp;omega
 have l1:c1.length=cur.length:=by show (cur.take (a+new.length)++(cur.take b).drop a++cur.drop (a+new.length+((cur.take b).drop a).length)).length=_;rw [List.length_append,List.length_append,hl];simp;omega
 refine⟨?_,?_,l1⟩
 ·have e1:c1.take a=(cur.take b).take a:=by
   show (cur.take (a+new.length)++(cur.take b).drop a++cur.drop (a+new.length+((cur.take b).drop a).length)).take a=_;rw [List.append_assoc,List.take_append_of_le_length (by simp;omega),List.take_take,List.take_take];congr 1;omega
  have e2:(c1.drop (a+new.length))=(cur.take b).drop a++cur.drop (a+new.length+((cur.take b).drop a).length):=by
   show (cur.take (a+new.length)++(cur.take b).drop a++cur.drop (a+new.length+((cur.take b).drop a).length)).drop (a+new.length)=_;rw [List.append_assoc];have:(cur.take (a+new.length)).length=a+new.length:=by simp;omega
   rw [List.drop_append_of_le_length (by omega),List.drop_of_length_le (by omega),List.nil_append]
  rw [e1,e2];have l2:((cur.take b).take a++new++(cur.take b).drop a).length=b+new.length:=by simp;omega
  rw [<-List.append_assoc,<-l2,List.take_left]
 ·have:(c1.take a).length=a:=by rw [List.length_take,l1];omega
  rw [List.length_append,List.length_append,this,List.length_drop,l1];omega
theorem Gw {α:Type} (xs new z1 z2:List α) (a:Nat) (ha:a<=xs.length) (hz:z1.length=new.length+(xs.length-a)):
 let c0:=xs.take a++z1++z2
 let c1:=c0.take a++new++c0.drop (a+new.length)
 (c1.take (a+new.length)++xs.drop a++c1.drop (a+new.length+(xs.drop a).length)).take (xs.length+new.length)=xs.take a++new++xs.drop a/\
 (c1.take (a+new.length)++xs.drop a++c1.drop (a+new.length+(xs.drop a).length)).length=c0.length/\c1.length=c0.length:=by
 intro c0 c1;have l0:c0.length=xs.length+new.length+z2.length:=by show (xs.take a++z1++z2).length=_;simp;omega
 have hd:(xs.drop a).length=xs.length-a:=by simp
 have e0:c0.take a=xs.take a:=by show (xs.take a++z1++z2).take a=_;rw [List.append_assoc,List.take_append_of_le_length (by simp;omega),List.take_take,Nat.min_self]
 have lt:(c0.take a).length=a:=by rw [List.length_take,l0];omega
 have l1:c1.length=c0.length:=by show (c0.take a++new++c0.drop (a+new.length)).length=_;rw [List.length_append,List.length_append,lt,List.length_drop,l0];omega
 have e1:c1.take (a+new.length)=xs.take a++new:=by show (c0.take a++new++c0.drop (a+new.length)).take (a+new.length)=_;rw [List.take_append_of_le_length (by rw [List.length_append,lt];omega),List.take_of_length_le (by rw [List.length_append,lt];omega),e0]
 refine⟨?_,?_,l1⟩
 ·rw [e1]
  have l2:(xs.take a++new++xs.drop a).length=xs.length+new.length:=by simp;omega
  rw [<-l2,List.take_left]
 ·have:(c1.take (a+new.length)).length=a+new.length:=by rw [List.length_take,l1,l0];omega
  rw [List.length_append,List.length_append,this,hd,List.length_drop,l1,l0];omega
theorem Jh {α:Type} (cur z:List α) (a k b:Nat) (hab:a+k<=b) (hb:b<=cur.length) (hz:z.length=k) (cs:List α) (hcs:cs=(cur.take b).drop (a+k)):
 let c1:=cur.take a++cs++cur.drop (a+cs.length)
 (c1.take (b-k)++z++c1.drop (b-k+k)).take (b-k)=(cur.take b).take a++(cur.take b).drop (a+k)/\ (c1.take (b-k)++z++c1.drop (b-k+k)).length=cur.length/\c1.length=cur.length:=by
 subst hcs;intro c1;have hl:((cur.take b).drop (a+k)).length=b-(a+k):=by simp;omega
 have ha:(cur.take a).length=a:=by simp;omega
 have l1:c1.length=cur.length:=by show (cur.take a++(cur.take b).drop (a+k)++cur.drop (a+((cur.take b).drop (a+k)).length)).length=_;rw [List.length_append,List.length_append,hl,ha,List.length_drop];omega
 have e1:c1.take (b-k)=(cur.take b).take a++(cur.take b).drop (a+k):=by
  show (cur.take a++(cur.take b).drop (a+k)++cur.drop (a+((cur.take b).drop (a+k)).length)).take (b-k)=_;have l2:(cur.take a++(cur.take b).drop (a+k)).length=b-k:=by rw [List.length_append,ha,hl];omega
  rw [<-l2,List.take_left,List.take_take];congr 2;omega
 have lt:(c1.take (b-k)).length=b-k:=by rw [List.length_take,l1];omega
 refine⟨?_,?_,l1⟩
 ·rw [List.append_assoc,List.take_append_of_le_length (by omega),List.take_of_length_le (by omega),e1]
 ·rw [List.length_append,List.length_append,lt,hz,List.length_drop,l1]
  omega
end Go.Proofs.YtlcebdaghmdkeaaGreatDoor
