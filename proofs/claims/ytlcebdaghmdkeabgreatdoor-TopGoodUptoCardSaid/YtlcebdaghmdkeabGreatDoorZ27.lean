import Derived.Test.YtlcebdaghmdkeabGreatDoorZ6
set_option linter.all false
set_option maxRecDepth 100000
set_option maxHeartbeats 64000000
namespace Go.Proofs.YtlcebdaghmdkeabGreatDoor
open Go.Proofs.Tryz
open Go.RowKit
attribute [local go_sem↓] Go.wp_at_zero Go.wp_at_succ
theorem abU (c:UInt8):(nS c).length<=6:=by
 unfold nS
 repeat (split<;>try(simp;done))
 all_goals simp
theorem abZ (s:ah) (k:Nat) (h:k<s.size):(s.data.toList.drop k).flatMap nS=nS s[k]++(s.data.toList.drop (k+1)).flatMap nS:=by
 have h':k<s.data.toList.length:=by rw [Array.length_toList];exact h
 rw [List.drop_eq_getElem_cons h',List.flatMap_cons];rfl
theorem SM:∀n:Nat,n<256->bits BinOp.and IntKind.u8 (n:Int) 15=((n%16:Nat):Int):=by decide+kernel
theorem GR:∀n:Nat,n<16->∀h:n<(⟨#[48,49,50,51,52,53,54,55,56,57,97,98,99,100,101,102]⟩:ah).size,(⟨#[48,49,50,51,52,53,54,55,56,57,97,98,99,100,101,102]⟩:ah)[n]'h=mh n:=by decide+kernel
theorem ur {s:ah} {k:Nat} (h:k<s.size) {acc T E:Bytes} (ha:acc++((s.data.toList.drop k).flatMap nS++ [34])=T) (hE:nS s[k]=E):acc++E++((s.data.toList.drop (k+1)).flatMap nS++ [34])=T:=by
 rw [<-ha,abZ s k h,hE];simp
theorem LI (B:Nat) (v:Value) (l:Bytes) (s:ah) (w:World) (hs:s.size<=1073741824) (hn:l.length<=1099511627776) (hB:B<=w.heap.size) (hown:dn w B v l):
 Calls prog 127 #[v, .string s] w fun e w'=>∃v',e= .returned v'/\dn w' B v' (l++nT s.data.toList)/\Wrote B w w':=by
 have cg:=ae hown;clear hown;go_enter func127,ntmps127;go_wp2_with (at_builtin;refine nH (by rfl) _ _ _ (by rfl) (by rfl) B v l (by rfl) (cg.out.ext Xt) ⟨w.heap.size,0,none⟩ 1 1 [34] (by rfl) (by rfl) (World.news_of_block (cs:= #[.int .u8 34]) (t:=5) (fr:=(0,0)) (heap_alloc_new w _)) (by omega) (by simp;omega) ?_;intro v1 w1 hown1 hgrow1;have h1:Wrote B w w1:=Wrote.grown (w:=w.alloc _) ((Wrote.refl B w).ext hB Xt) hB (cg.out.ext Xt) hgrow1;obtain⟨a1,c1,rfl,-⟩:=hown1.form;have nZ:=ae hown1;clear hown1 hgrow1)
 go_loopg [0,5,6,12] s.size (fun g t0 _ _ i wr=>∃(k:Nat) (acc:Bytes) (a0:au) (c0:Nat),k<=s.size/\i= .int .i64 k/\g=s.size-k/\t0= .slice a0 acc.length c0/\dn wr B (.slice a0 acc.length c0) acc/\acc++((s.data.toList.drop k).flatMap nS++ [34])=l++nT s.data.toList/\acc.length<=l.length+1+k*6/\Wrote B w wr)
 case atStart=>exact⟨0,l++ [34],a1,c1,by omega,rfl,rfl,by simp,nZ.out,by simp [nT],by simp,h1⟩
 case round=>
  obtain⟨k,acc,a0,c0,hk,rfl,rfl,rfl,hO,hacc,hal,hx⟩:=hrel;have HO:=ae hO;have fH:=ae hacc;have hBr:=hx.size;clear hO hacc;by_cases hlt:k<s.size
  ·have SN:s[k].toNat<256:=s[k].toNat_lt
   by_cases lW:(s[k].toNat:Int)=34
   ·have LX:((s[k].toNat:Int)==34)=true:=by simpa using lW
    go_wp2_with (at_builtin;refine nH (by rfl) _ _ _ (by rfl) (by rfl) B (.slice a0 acc.length c0) acc (by rfl) (HO.out.ext Xt) ⟨wr.heap.size,0,none⟩ 2 2 [92,34] (by rfl) (by rfl) (World.news_of_block (cs:= #[.int .u8 92, .int .u8 34]) (t:=5) (fr:=(0,0)) (heap_alloc_new wr _)) (by omega) (by simp;omega) ?_;intro v2 w2 hown2 hgrow2;have h2:Wrote B w w2:=Wrote.grown (w:=wr.alloc _) (hx.ext hB Xt) hB (HO.out.ext Xt) hgrow2;obtain⟨a2,c2,rfl,-⟩:=hown2.form;have dK:=ae hown2;clear hown2 hgrow2);go_roundg (s.size-(k+1))
    case measure=>omega
    case rel=>exact⟨k+1,acc++ [92,34],a2,c2,by omega,by go_num,rfl,by simp,dK.out,ur hlt fH.out (by rw [rZ (n:=34) (by omega) lW];rfl),by simp;omega,h2⟩
   have LX:((s[k].toNat:Int)==34)=false:=by simpa using lW
   by_cases sA:(s[k].toNat:Int)=92
   ·have b92:((s[k].toNat:Int)==92)=true:=by simpa using sA
    go_wp2_with (at_builtin;refine nH (by rfl) _ _ _ (by rfl) (by rfl) B (.slice a0 acc.length c0) acc (by rfl) (HO.out.ext Xt) ⟨wr.heap.size,0,none⟩ 2 2 [92,92] (by rfl) (by rfl) (World.news_of_block (cs:= #[.int .u8 92, .int .u8 92]) (t:=5) (fr:=(0,0)) (heap_alloc_new wr _)) (by omega) (by simp;omega) ?_;intro v2 w2 hown2 hgrow2;have h2:Wrote B w w2:=Wrote.grown (w:=wr.alloc _) (hx.ext hB Xt) hB (HO.out.ext Xt) hgrow2;obtain⟨a2,c2,rfl,-⟩:=hown2.form;have dK:=ae hown2;clear hown2 hgrow2);go_roundg (s.size-(k+1))
    case measure=>omega
    case rel=>exact⟨k+1,acc++ [92,92],a2,c2,by omega,by go_num,rfl,by simp,dK.out,ur hlt fH.out (by rw [rZ (n:=92) (by omega) sA];rfl),by simp;omega,h2⟩
   have b92:((s[k].toNat:Int)==92)=false:=by simpa using sA
   by_cases c8:(s[k].toNat:Int)=8
   ·have b8:((s[k].toNat:Int)==8)=true:=by simpa using c8
    go_wp2_with (at_builtin;refine tK (by rfl) _ _ _ _ (by rfl) (by rfl) (by rfl) B (.slice a0 acc.length c0) acc (by rfl) (HO.out.ext Xt) ⟨#[92,98]⟩ (by rfl) (by simp [ByteArray.size];omega) (by omega) ?_;intro v2 w2 hown2 hgrow2;have h2:Wrote B w w2:=Wrote.grown (w:=wr) hx hB (HO.out.ext Xt) hgrow2;obtain⟨a2,c2,rfl,-⟩:=hown2.form;have dK:=ae hown2;clear hown2 hgrow2);go_roundg (s.size-(k+1))
    case measure=>omega
    case rel=>exact⟨k+1,acc++ [92,98],a2,c2,by omega,by go_num,rfl,by simp,dK.out,ur hlt fH.out (by rw [rZ (n:=8) (by omega) c8];rfl),by simp;omega,h2⟩
   have b8:((s[k].toNat:Int)==8)=false:=by simpa using c8
   by_cases c12:(s[k].toNat:Int)=12
   ·have b12:((s[k].toNat:Int)==12)=true:=by simpa using c12
    go_wp2_with (at_builtin;refine tK (by rfl) _ _ _ _ (by rfl) (by rfl) (by rfl) B (.slice a0 acc.length c0) acc (by rfl) (HO.out.ext Xt) ⟨#[92,102]⟩ (by rfl) (by simp [ByteArray.size];omega) (by omega) ?_;intro v2 w2 hown2 hgrow2;have h2:Wrote B w w2:=Wrote.grown (w:=wr) hx hB (HO.out.ext Xt) hgrow2;obtain⟨a2,c2,rfl,-⟩:=hown2.form;have dK:=ae hown2;clear hown2 hgrow2);go_roundg (s.size-(k+1))
    case measure=>omega
    case rel=>exact⟨k+1,acc++ [92,102],a2,c2,by omega,by go_num,rfl,by simp,dK.out,ur hlt fH.out (by rw [rZ (n:=12) (by omega) c12];rfl),by simp;omega,h2⟩
   have b12:((s[k].toNat:Int)==12)=false:=by simpa using c12
   by_cases c10:(s[k].toNat:Int)=10
   ·have b10:((s[k].toNat:Int)==10)=true:=by simpa using c10
    go_wp2_with (at_builtin;refine tK (by rfl) _ _ _ _ (by rfl) (by rfl) (by rfl) B (.slice a0 acc.length c0) acc (by rfl) (HO.out.ext Xt) ⟨#[92,110]⟩ (by rfl) (by simp [ByteArray.size];omega) (by omega) ?_;intro v2 w2 hown2 hgrow2;have h2:Wrote B w w2:=Wrote.grown (w:=wr) hx hB (HO.out.ext Xt) hgrow2;obtain⟨a2,c2,rfl,-⟩:=hown2.form;have dK:=ae hown2;clear hown2 hgrow2);go_roundg (s.size-(k+1))
    case measure=>omega
    case rel=>exact⟨k+1,acc++ [92,110],a2,c2,by omega,by go_num,rfl,by simp,dK.out,ur hlt fH.out (by rw [rZ (n:=10) (by omega) c10];rfl),by simp;omega,h2⟩
   have b10:((s[k].toNat:Int)==10)=false:=by simpa using c10
   by_cases c13:(s[k].toNat:Int)=13
   ·have b13:((s[k].toNat:Int)==13)=true:=by simpa using c13
    go_wp2_with (at_builtin;refine tK (by rfl) _ _ _ _ (by rfl) (by rfl) (by rfl) B (.slice a0 acc.length c0) acc (by rfl) (HO.out.ext Xt) ⟨#[92,114]⟩ (by rfl) (by simp [ByteArray.size];omega) (by omega) ?_;intro v2 w2 hown2 hgrow2;have h2:Wrote B w w2:=Wrote.grown (w:=wr) hx hB (HO.out.ext Xt) hgrow2;obtain⟨a2,c2,rfl,-⟩:=hown2.form;have dK:=ae hown2;clear hown2 hgrow2);go_roundg (s.size-(k+1))
    case measure=>omega
    case rel=>exact⟨k+1,acc++ [92,114],a2,c2,by omega,by go_num,rfl,by simp,dK.out,ur hlt fH.out (by rw [rZ (n:=13) (by omega) c13];rfl),by simp;omega,h2⟩
   have b13:((s[k].toNat:Int)==13)=false:=by simpa using c13
   by_cases c9:(s[k].toNat:Int)=9
   ·have b9:((s[k].toNat:Int)==9)=true:=by simpa using c9
    go_wp2_with (at_builtin;refine tK (by rfl) _ _ _ _ (by rfl) (by rfl) (by rfl) B (.slice a0 acc.length c0) acc (by rfl) (HO.out.ext Xt) ⟨#[92,116]⟩ (by rfl) (by simp [ByteArray.size];omega) (by omega) ?_;intro v2 w2 hown2 hgrow2;have h2:Wrote B w w2:=Wrote.grown (w:=wr) hx hB (HO.out.ext Xt) hgrow2;obtain⟨a2,c2,rfl,-⟩:=hown2.form;have dK:=ae hown2;clear hown2 hgrow2);go_roundg (s.size-(k+1))
    case measure=>omega
    case rel=>exact⟨k+1,acc++ [92,116],a2,c2,by omega,by go_num,rfl,by simp,dK.out,ur hlt fH.out (by rw [rZ (n:=9) (by omega) c9];rfl),by simp;omega,h2⟩
   have b9:((s[k].toNat:Int)==9)=false:=by simpa using c9
   by_cases hlo:(s[k].toNat:Int)<32\/ (s[k].toNat:Int)=127
   ·obtain⟨n1,oY⟩:∃n1:Nat,s[k].toNat/16=n1:=⟨_,rfl⟩
    obtain⟨n2,kI⟩:∃n2:Nat,s[k].toNat%16=n2:=⟨_,rfl⟩
    have HE:=ae (show nS s[k]= [92,117,48,48,mh n1,mh n2] by
     have e:∀n:Nat,n<256-> (s[k].toNat:Int)≠n->s[k]≠UInt8.ofNat n:=fun n hn h h'=>h (by rw [h'];simp;omega);have LY:s[k]≠34:=e 34 (by omega) lW;have LZ:s[k]≠92:=e 92 (by omega) sA;have e8:s[k]≠8:=e 8 (by omega) c8;have e12:s[k]≠12:=e 12 (by omega) c12;have e10:s[k]≠10:=e 10 (by omega) c10;have L5:s[k]≠13:=e 13 (by omega) c13;have e9:s[k]≠9:=e 9 (by omega) c9;have L6:s[k].toNat<32\/s[k]=127:=by
      rcases hlo with h|h
      ·exact .inl (by omega)
      ·exact .inr (rZ (n:=127) (by omega) h)
     unfold nS
     simp only [LY,LZ,e8,e12,e10,L5,e9,L6,or_self,if_false,if_true,oY,kI])
    have l0:s[k].toNat<128:=by omega
    by_cases hl:(s[k].toNat:Int)<32
    ·have b32:decide ((s[k].toNat:Int)<32)=true:=by simpa using hl
     clear hlo;go_wp2_with (at_builtin;refine tK (by rfl) _ _ _ _ (by rfl) (by rfl) (by rfl) B (.slice a0 acc.length c0) acc (by rfl) (HO.out.ext Xt) ⟨#[92,117,48,48]⟩ (by rfl) (by simp [ByteArray.size];omega) (by omega) ?_;intro v2 w2 hown2 hgrow2;have h2:Wrote B w w2:=Wrote.grown (w:=wr) hx hB (HO.out.ext Xt) hgrow2;obtain⟨a2,c2,rfl,-⟩:=hown2.form;have dK:=ae hown2;clear hown2 hgrow2);have e1:(s[k].toNat:Int)/16=(n1:Int):=by omega
     have l1:n1<16:=by omega
     have l1':(n1:Int)<16:=by omega
     have e2:bits BinOp.and IntKind.u8 (s[k].toNat:Int) 15=(n2:Int):=by rw [SM _ SN,kI]
     have l2:n2<16:=by omega
     have l2':(n2:Int)<16:=by omega
     have g1:=GR n1 l1;have g2:=GR n2 l2;have dK:Hid (dn w2 B (.slice a2 (acc.length+4) c2) (acc++ [92,117,48,48])):=ae (by have:=dK.out;simpa using this);have hz2:=h2.size
     go_region_law (refine OJ (by rfl) _ _ _ (by rfl) (by rfl) B (.slice a2 (acc.length+4) c2) (acc++ [92,117,48,48]) (by rfl) (dK.out.ext Xt) ⟨_,0,none⟩ 2 2 [mh n1,mh n2] (by rfl) (by rfl) (by decide) (World.news_of_block (cs:= #[.int .u8 (mh n1).toNat, .int .u8 (mh n2).toNat]) (t:=5) (fr:=(0,0)) (heap_alloc_new _ _)) (by simp;omega) (by simp;omega) ?_;intro g3 zB w3 eH jK;have h3:Wrote B w w3:=Wrote.grown (h2.ext hB Xt) hB (dK.out.ext Xt) jK;have ql:=ae eH;clear eH jK)
     all_goals
      go_wp2_with fail;go_roundg (s.size-(k+1))
      case measure=>omega
      case rel=>exact⟨k+1,acc++ [92,117,48,48,mh n1,mh n2],some ⟨g3,0,none⟩,zB,by omega,by go_num,rfl,by simp,by have:=ql.out;simpa using this,ur hlt fH.out HE.out,by simp;omega,h3⟩
    ·have b32:decide ((s[k].toNat:Int)<32)=false:=by simpa using hl
     have ab0:((s[k].toNat:Int)==127)=true:=by simpa using hlo.resolve_left hl
     clear hlo;go_wp2_with (at_builtin;refine tK (by rfl) _ _ _ _ (by rfl) (by rfl) (by rfl) B (.slice a0 acc.length c0) acc (by rfl) (HO.out.ext Xt) ⟨#[92,117,48,48]⟩ (by rfl) (by simp [ByteArray.size];omega) (by omega) ?_;intro v2 w2 hown2 hgrow2;have h2:Wrote B w w2:=Wrote.grown (w:=wr) hx hB (HO.out.ext Xt) hgrow2;obtain⟨a2,c2,rfl,-⟩:=hown2.form;have dK:=ae hown2;clear hown2 hgrow2);have e1:(s[k].toNat:Int)/16=(n1:Int):=by omega
     have l1:n1<16:=by omega
     have l1':(n1:Int)<16:=by omega
     have e2:bits BinOp.and IntKind.u8 (s[k].toNat:Int) 15=(n2:Int):=by rw [SM _ SN,kI]
     have l2:n2<16:=by omega
     have l2':(n2:Int)<16:=by omega
     have g1:=GR n1 l1;have g2:=GR n2 l2;have dK:Hid (dn w2 B (.slice a2 (acc.length+4) c2) (acc++ [92,117,48,48])):=ae (by have:=dK.out;simpa using this);have hz2:=h2.size
     go_region_law (refine OJ (by rfl) _ _ _ (by rfl) (by rfl) B (.slice a2 (acc.length+4) c2) (acc++ [92,117,48,48]) (by rfl) (dK.out.ext Xt) ⟨_,0,none⟩ 2 2 [mh n1,mh n2] (by rfl) (by rfl) (by decide) (World.news_of_block (cs:= #[.int .u8 (mh n1).toNat, .int .u8 (mh n2).toNat]) (t:=5) (fr:=(0,0)) (heap_alloc_new _ _)) (by simp;omega) (by simp;omega) ?_;intro g3 zB w3 eH jK;have h3:Wrote B w w3:=Wrote.grown (h2.ext hB Xt) hB (dK.out.ext Xt) jK;have ql:=ae eH;clear eH jK)
     all_goals
      go_wp2_with fail;go_roundg (s.size-(k+1))
      case measure=>omega
      case rel=>exact⟨k+1,acc++ [92,117,48,48,mh n1,mh n2],some ⟨g3,0,none⟩,zB,by omega,by go_num,rfl,by simp,by have:=ql.out;simpa using this,ur hlt fH.out HE.out,by simp;omega,h3⟩
   have c32:¬(s[k].toNat:Int)<32:=fun h=>hlo (.inl h);have c127:¬(s[k].toNat:Int)=127:=fun h=>hlo (.inr h);have ab0:((s[k].toNat:Int)==127)=false:=by simpa using c127
   have b32:decide ((s[k].toNat:Int)<32)=false:=by simpa using c32
   clear hlo;have hE:nS s[k]= [s[k]]:=by
    have e:∀n:Nat,n<256-> (s[k].toNat:Int)≠n->s[k]≠UInt8.ofNat n:=fun n hn h h'=>h (by rw [h'];simp;omega);have LY:s[k]≠34:=e 34 (by omega) lW;have LZ:s[k]≠92:=e 92 (by omega) sA;have e8:s[k]≠8:=e 8 (by omega) c8;have e12:s[k]≠12:=e 12 (by omega) c12;have e10:s[k]≠10:=e 10 (by omega) c10;have L5:s[k]≠13:=e 13 (by omega) c13;have e9:s[k]≠9:=e 9 (by omega) c9;have ab1:s[k]≠127:=e 127 (by omega) c127;have L6:¬s[k].toNat<32:=by omega
    unfold nS;simp only [LY,LZ,e8,e12,e10,L5,e9,ab1,L6,or_self,if_false]
   have HE:=ae hE;clear hE;go_wp2_with (at_builtin;refine nH (by rfl) _ _ _ (by rfl) (by rfl) B (.slice a0 acc.length c0) acc (by rfl) (HO.out.ext Xt) ⟨wr.heap.size,0,none⟩ 1 1 [s[k]] (by rfl) (by rfl) (World.news_of_block (cs:= #[.int .u8 s[k].toNat]) (t:=5) (fr:=(0,0)) (heap_alloc_new wr _)) (by omega) (by simp;omega) ?_;intro v2 w2 hown2 hgrow2;have h2:Wrote B w w2:=Wrote.grown (w:=wr.alloc _) (hx.ext hB Xt) hB (HO.out.ext Xt) hgrow2;obtain⟨a2,c2,rfl,-⟩:=hown2.form;have dK:=ae hown2;clear hown2 hgrow2);go_roundg (s.size-(k+1))
   case measure=>omega
   case rel=>exact⟨k+1,acc++ [s[k]],a2,c2,by omega,by go_num,rfl,by simp,dK.out,ur hlt fH.out HE.out,by simp;omega,h2⟩
  ·obtain rfl:k=s.size:=by omega
   go_wp2_with (at_builtin;refine nH (by rfl) _ _ _ (by rfl) (by rfl) B (.slice a0 acc.length c0) acc (by rfl) (HO.out.ext Xt) ⟨wr.heap.size,0,none⟩ 1 1 [34] (by rfl) (by rfl) (World.news_of_block (cs:= #[.int .u8 34]) (t:=5) (fr:=(0,0)) (heap_alloc_new wr _)) (by omega) (by simp;omega) ?_;intro v2 w2 hown2 hgrow2;have h2:Wrote B w w2:=Wrote.grown (w:=wr.alloc _) (hx.ext hB Xt) hB (HO.out.ext Xt) hgrow2;obtain⟨a2,c2,rfl,-⟩:=hown2.form;have dK:=ae hown2;clear hown2 hgrow2);refine aF (h:= ?_);refine⟨_,rfl,?_,h2⟩;have e:=fH.out;rw [List.drop_eq_nil_of_le (by rw [Array.length_toList];exact Nat.le_refl _),List.flatMap_nil,List.nil_append] at e;rw [<-e];simpa using dK.out
end Go.Proofs.YtlcebdaghmdkeabGreatDoor
