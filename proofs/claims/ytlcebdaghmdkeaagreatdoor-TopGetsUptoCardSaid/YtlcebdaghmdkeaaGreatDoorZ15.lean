import Derived.Lib.BufferRead
import Derived.Test.YtlcebdaghmdkeaaGreatDoorZ14
set_option linter.all false
set_option maxRecDepth 100000
set_option maxHeartbeats 64000000
namespace Go.Proofs.YtlcebdaghmdkeaaGreatDoor
open Go.Proofs.Tryz
open Go.RowKit
attribute [local go_sem↓] Go.wp_at_zero Go.wp_at_succ
theorem abT (c:UInt8):(iN c).length<=6:=by
 unfold iN
 repeat (split<;>try(simp;done))
 all_goals simp
theorem abX (s:ah) (k:Nat) (h:k<s.size):(s.data.toList.drop k).flatMap iN=iN s[k]++(s.data.toList.drop (k+1)).flatMap iN:=by
 have h':k<s.data.toList.length:=by rw [Array.length_toList];exact h
 rw [List.drop_eq_getElem_cons h',List.flatMap_cons];rfl
theorem SL:∀n:Nat,n<256->bits BinOp.and IntKind.u8 (n:Int) 15=((n%16:Nat):Int):=by decide+kernel
theorem G5:∀n:Nat,n<16->∀h:n<(⟨#[48,49,50,51,52,53,54,55,56,57,97,98,99,100,101,102]⟩:ah).size,(⟨#[48,49,50,51,52,53,54,55,56,57,97,98,99,100,101,102]⟩:ah)[n]'h=lT n:=by decide+kernel
theorem ui {s:ah} {k:Nat} (h:k<s.size) {acc T E:Bytes} (ha:acc++((s.data.toList.drop k).flatMap iN++ [34])=T) (hE:iN s[k]=E):acc++E++((s.data.toList.drop (k+1)).flatMap iN++ [34])=T:=by
 rw [<-ha,abX s k h,hE];simp
theorem LP (B:Nat) (v:Value) (l:Bytes) (s:ah) (w:World) (hs:s.size<=1073741824) (hn:l.length<=1099511627776) (hB:B<=w.heap.size) (hown:dt w B v l):
 Calls prog 63 #[v, .string s] w fun e w'=>∃v',e= .returned v'/\dt w' B v' (l++kS s.data.toList)/\Wrote B w w':=by
 have ck:=ae hown;clear hown;go_enter func63,ntmps63;go_wp2_with (at_builtin;refine nU (by rfl) _ _ _ (by rfl) (by rfl) B v l (by rfl) (ck.out.ext Xt) ⟨w.heap.size,0,none⟩ 1 1 [34] (by rfl) (by rfl) (World.news_of_block (cs:= #[.int .u8 34]) (t:=5) (fr:=(0,0)) (heap_alloc_new w _)) (by omega) (by simp;omega) ?_;intro v1 w1 hown1 hgrow1;have h1:Wrote B w w1:=Wrote.grown (w:=w.alloc _) ((Wrote.refl B w).ext hB Xt) hB (ck.out.ext Xt) hgrow1;obtain⟨a1,c1,rfl,-⟩:=hown1.form;have oJ:=ae hown1;clear hown1 hgrow1)
 go_loopg [0,5,6,12] s.size (fun g t0 _ _ i wr=>∃(k:Nat) (acc:Bytes) (a0:aq) (c0:Nat),k<=s.size/\i= .int .i64 k/\g=s.size-k/\t0= .slice a0 acc.length c0/\dt wr B (.slice a0 acc.length c0) acc/\acc++((s.data.toList.drop k).flatMap iN++ [34])=l++kS s.data.toList/\acc.length<=l.length+1+k*6/\Wrote B w wr)
 case atStart=>exact⟨0,l++ [34],a1,c1,by omega,rfl,rfl,by simp,oJ.out,by simp [kS],by simp,h1⟩
 case round=>
  obtain⟨k,acc,a0,c0,hk,rfl,rfl,rfl,hO,hacc,hal,hx⟩:=hrel;have HO:=ae hO;have fD:=ae hacc;have hBr:=hx.size;clear hO hacc;by_cases hlt:k<s.size
  ·have SM:s[k].toNat<256:=s[k].toNat_lt
   by_cases lW:(s[k].toNat:Int)=34
   ·have Mb:((s[k].toNat:Int)==34)=true:=by simpa using lW
    go_wp2_with (at_builtin;refine nU (by rfl) _ _ _ (by rfl) (by rfl) B (.slice a0 acc.length c0) acc (by rfl) (HO.out.ext Xt) ⟨wr.heap.size,0,none⟩ 2 2 [92,34] (by rfl) (by rfl) (World.news_of_block (cs:= #[.int .u8 92, .int .u8 34]) (t:=5) (fr:=(0,0)) (heap_alloc_new wr _)) (by omega) (by simp;omega) ?_;intro v2 w2 hown2 hgrow2;have h2:Wrote B w w2:=Wrote.grown (w:=wr.alloc _) (hx.ext hB Xt) hB (HO.out.ext Xt) hgrow2;obtain⟨a2,c2,rfl,-⟩:=hown2.form;have dL:=ae hown2;clear hown2 hgrow2);go_roundg (s.size-(k+1))
    case measure=>omega
    case rel=>exact⟨k+1,acc++ [92,34],a2,c2,by omega,by go_num,rfl,by simp,dL.out,ui hlt fD.out (by rw [rU (n:=34) (by omega) lW];rfl),by simp;omega,h2⟩
   have Mb:((s[k].toNat:Int)==34)=false:=by simpa using lW
   by_cases r9:(s[k].toNat:Int)=92
   ·have b92:((s[k].toNat:Int)==92)=true:=by simpa using r9
    go_wp2_with (at_builtin;refine nU (by rfl) _ _ _ (by rfl) (by rfl) B (.slice a0 acc.length c0) acc (by rfl) (HO.out.ext Xt) ⟨wr.heap.size,0,none⟩ 2 2 [92,92] (by rfl) (by rfl) (World.news_of_block (cs:= #[.int .u8 92, .int .u8 92]) (t:=5) (fr:=(0,0)) (heap_alloc_new wr _)) (by omega) (by simp;omega) ?_;intro v2 w2 hown2 hgrow2;have h2:Wrote B w w2:=Wrote.grown (w:=wr.alloc _) (hx.ext hB Xt) hB (HO.out.ext Xt) hgrow2;obtain⟨a2,c2,rfl,-⟩:=hown2.form;have dL:=ae hown2;clear hown2 hgrow2);go_roundg (s.size-(k+1))
    case measure=>omega
    case rel=>exact⟨k+1,acc++ [92,92],a2,c2,by omega,by go_num,rfl,by simp,dL.out,ui hlt fD.out (by rw [rU (n:=92) (by omega) r9];rfl),by simp;omega,h2⟩
   have b92:((s[k].toNat:Int)==92)=false:=by simpa using r9
   by_cases c8:(s[k].toNat:Int)=8
   ·have b8:((s[k].toNat:Int)==8)=true:=by simpa using c8
    go_wp2_with (at_builtin;refine tF (by rfl) _ _ _ _ (by rfl) (by rfl) (by rfl) B (.slice a0 acc.length c0) acc (by rfl) (HO.out.ext Xt) ⟨#[92,98]⟩ (by rfl) (by simp [ByteArray.size];omega) (by omega) ?_;intro v2 w2 hown2 hgrow2;have h2:Wrote B w w2:=Wrote.grown (w:=wr) hx hB (HO.out.ext Xt) hgrow2;obtain⟨a2,c2,rfl,-⟩:=hown2.form;have dL:=ae hown2;clear hown2 hgrow2);go_roundg (s.size-(k+1))
    case measure=>omega
    case rel=>exact⟨k+1,acc++ [92,98],a2,c2,by omega,by go_num,rfl,by simp,dL.out,ui hlt fD.out (by rw [rU (n:=8) (by omega) c8];rfl),by simp;omega,h2⟩
   have b8:((s[k].toNat:Int)==8)=false:=by simpa using c8
   by_cases c12:(s[k].toNat:Int)=12
   ·have b12:((s[k].toNat:Int)==12)=true:=by simpa using c12
    go_wp2_with (at_builtin;refine tF (by rfl) _ _ _ _ (by rfl) (by rfl) (by rfl) B (.slice a0 acc.length c0) acc (by rfl) (HO.out.ext Xt) ⟨#[92,102]⟩ (by rfl) (by simp [ByteArray.size];omega) (by omega) ?_;intro v2 w2 hown2 hgrow2;have h2:Wrote B w w2:=Wrote.grown (w:=wr) hx hB (HO.out.ext Xt) hgrow2;obtain⟨a2,c2,rfl,-⟩:=hown2.form;have dL:=ae hown2;clear hown2 hgrow2);go_roundg (s.size-(k+1))
    case measure=>omega
    case rel=>exact⟨k+1,acc++ [92,102],a2,c2,by omega,by go_num,rfl,by simp,dL.out,ui hlt fD.out (by rw [rU (n:=12) (by omega) c12];rfl),by simp;omega,h2⟩
   have b12:((s[k].toNat:Int)==12)=false:=by simpa using c12
   by_cases c10:(s[k].toNat:Int)=10
   ·have b10:((s[k].toNat:Int)==10)=true:=by simpa using c10
    go_wp2_with (at_builtin;refine tF (by rfl) _ _ _ _ (by rfl) (by rfl) (by rfl) B (.slice a0 acc.length c0) acc (by rfl) (HO.out.ext Xt) ⟨#[92,110]⟩ (by rfl) (by simp [ByteArray.size];omega) (by omega) ?_;intro v2 w2 hown2 hgrow2;have h2:Wrote B w w2:=Wrote.grown (w:=wr) hx hB (HO.out.ext Xt) hgrow2;obtain⟨a2,c2,rfl,-⟩:=hown2.form;have dL:=ae hown2;clear hown2 hgrow2);go_roundg (s.size-(k+1))
    case measure=>omega
    case rel=>exact⟨k+1,acc++ [92,110],a2,c2,by omega,by go_num,rfl,by simp,dL.out,ui hlt fD.out (by rw [rU (n:=10) (by omega) c10];rfl),by simp;omega,h2⟩
   have b10:((s[k].toNat:Int)==10)=false:=by simpa using c10
   by_cases c13:(s[k].toNat:Int)=13
   ·have b13:((s[k].toNat:Int)==13)=true:=by simpa using c13
    go_wp2_with (at_builtin;refine tF (by rfl) _ _ _ _ (by rfl) (by rfl) (by rfl) B (.slice a0 acc.length c0) acc (by rfl) (HO.out.ext Xt) ⟨#[92,114]⟩ (by rfl) (by simp [ByteArray.size];omega) (by omega) ?_;intro v2 w2 hown2 hgrow2;have h2:Wrote B w w2:=Wrote.grown (w:=wr) hx hB (HO.out.ext Xt) hgrow2;obtain⟨a2,c2,rfl,-⟩:=hown2.form;have dL:=ae hown2;clear hown2 hgrow2);go_roundg (s.size-(k+1))
    case measure=>omega
    case rel=>exact⟨k+1,acc++ [92,114],a2,c2,by omega,by go_num,rfl,by simp,dL.out,ui hlt fD.out (by rw [rU (n:=13) (by omega) c13];rfl),by simp;omega,h2⟩
   have b13:((s[k].toNat:Int)==13)=false:=by simpa using c13
   by_cases c9:(s[k].toNat:Int)=9
   ·have b9:((s[k].toNat:Int)==9)=true:=by simpa using c9
    go_wp2_with (at_builtin;refine tF (by rfl) _ _ _ _ (by rfl) (by rfl) (by rfl) B (.slice a0 acc.length c0) acc (by rfl) (HO.out.ext Xt) ⟨#[92,116]⟩ (by rfl) (by simp [ByteArray.size];omega) (by omega) ?_;intro v2 w2 hown2 hgrow2;have h2:Wrote B w w2:=Wrote.grown (w:=wr) hx hB (HO.out.ext Xt) hgrow2;obtain⟨a2,c2,rfl,-⟩:=hown2.form;have dL:=ae hown2;clear hown2 hgrow2);go_roundg (s.size-(k+1))
    case measure=>omega
    case rel=>exact⟨k+1,acc++ [92,116],a2,c2,by omega,by go_num,rfl,by simp,dL.out,ui hlt fD.out (by rw [rU (n:=9) (by omega) c9];rfl),by simp;omega,h2⟩
   have b9:((s[k].toNat:Int)==9)=false:=by simpa using c9
   by_cases hlo:(s[k].toNat:Int)<32\/ (s[k].toNat:Int)=127
   ·obtain⟨n1,pj⟩:∃n1:Nat,s[k].toNat/16=n1:=⟨_,rfl⟩
    obtain⟨n2,kO⟩:∃n2:Nat,s[k].toNat%16=n2:=⟨_,rfl⟩
    have HE:=ae (show iN s[k]= [92,117,48,48,lT n1,lT n2] by
     have e:∀n:Nat,n<256-> (s[k].toNat:Int)≠n->s[k]≠UInt8.ofNat n:=fun n hn h h'=>h (by rw [h'];simp;omega);have Mc:s[k]≠34:=e 34 (by omega) lW;have Md:s[k]≠92:=e 92 (by omega) r9;have e8:s[k]≠8:=e 8 (by omega) c8;have e12:s[k]≠12:=e 12 (by omega) c12;have e10:s[k]≠10:=e 10 (by omega) c10;have Me:s[k]≠13:=e 13 (by omega) c13;have e9:s[k]≠9:=e 9 (by omega) c9;have Mf:s[k].toNat<32\/s[k]=127:=by
      rcases hlo with h|h
      ·exact .inl (by omega)
      ·exact .inr (rU (n:=127) (by omega) h)
     unfold iN
     simp only [Mc,Md,e8,e12,e10,Me,e9,Mf,or_self,if_false,if_true,pj,kO])
    have l0:s[k].toNat<128:=by omega
    by_cases hl:(s[k].toNat:Int)<32
    ·have b32:decide ((s[k].toNat:Int)<32)=true:=by simpa using hl
     clear hlo;go_wp2_with (at_builtin;refine tF (by rfl) _ _ _ _ (by rfl) (by rfl) (by rfl) B (.slice a0 acc.length c0) acc (by rfl) (HO.out.ext Xt) ⟨#[92,117,48,48]⟩ (by rfl) (by simp [ByteArray.size];omega) (by omega) ?_;intro v2 w2 hown2 hgrow2;have h2:Wrote B w w2:=Wrote.grown (w:=wr) hx hB (HO.out.ext Xt) hgrow2;obtain⟨a2,c2,rfl,-⟩:=hown2.form;have dL:=ae hown2;clear hown2 hgrow2);have e1:(s[k].toNat:Int)/16=(n1:Int):=by omega
     have l1:n1<16:=by omega
     have l1':(n1:Int)<16:=by omega
     have e2:bits BinOp.and IntKind.u8 (s[k].toNat:Int) 15=(n2:Int):=by rw [SL _ SM,kO]
     have l2:n2<16:=by omega
     have l2':(n2:Int)<16:=by omega
     have g1:=G5 n1 l1;have g2:=G5 n2 l2;have dL:Hid (dt w2 B (.slice a2 (acc.length+4) c2) (acc++ [92,117,48,48])):=ae (by have:=dL.out;simpa using this);have hz2:=h2.size
     go_region_law (refine Ox (by rfl) _ _ _ (by rfl) (by rfl) B (.slice a2 (acc.length+4) c2) (acc++ [92,117,48,48]) (by rfl) (dL.out.ext Xt) ⟨_,0,none⟩ 2 2 [lT n1,lT n2] (by rfl) (by rfl) (by decide) (World.news_of_block (cs:= #[.int .u8 (lT n1).toNat, .int .u8 (lT n2).toNat]) (t:=5) (fr:=(0,0)) (heap_alloc_new _ _)) (by simp;omega) (by simp;omega) ?_;intro g3 Bb w3 eH jU;have h3:Wrote B w w3:=Wrote.grown (h2.ext hB Xt) hB (dL.out.ext Xt) jU;have p6:=ae eH;clear eH jU)
     all_goals
      go_wp2_with fail;go_roundg (s.size-(k+1))
      case measure=>omega
      case rel=>exact⟨k+1,acc++ [92,117,48,48,lT n1,lT n2],some ⟨g3,0,none⟩,Bb,by omega,by go_num,rfl,by simp,by have:=p6.out;simpa using this,ui hlt fD.out HE.out,by simp;omega,h3⟩
    ·have b32:decide ((s[k].toNat:Int)<32)=false:=by simpa using hl
     have abY:((s[k].toNat:Int)==127)=true:=by simpa using hlo.resolve_left hl
     clear hlo;go_wp2_with (at_builtin;refine tF (by rfl) _ _ _ _ (by rfl) (by rfl) (by rfl) B (.slice a0 acc.length c0) acc (by rfl) (HO.out.ext Xt) ⟨#[92,117,48,48]⟩ (by rfl) (by simp [ByteArray.size];omega) (by omega) ?_;intro v2 w2 hown2 hgrow2;have h2:Wrote B w w2:=Wrote.grown (w:=wr) hx hB (HO.out.ext Xt) hgrow2;obtain⟨a2,c2,rfl,-⟩:=hown2.form;have dL:=ae hown2;clear hown2 hgrow2);have e1:(s[k].toNat:Int)/16=(n1:Int):=by omega
     have l1:n1<16:=by omega
     have l1':(n1:Int)<16:=by omega
     have e2:bits BinOp.and IntKind.u8 (s[k].toNat:Int) 15=(n2:Int):=by rw [SL _ SM,kO]
     have l2:n2<16:=by omega
     have l2':(n2:Int)<16:=by omega
     have g1:=G5 n1 l1;have g2:=G5 n2 l2;have dL:Hid (dt w2 B (.slice a2 (acc.length+4) c2) (acc++ [92,117,48,48])):=ae (by have:=dL.out;simpa using this);have hz2:=h2.size
     go_region_law (refine Ox (by rfl) _ _ _ (by rfl) (by rfl) B (.slice a2 (acc.length+4) c2) (acc++ [92,117,48,48]) (by rfl) (dL.out.ext Xt) ⟨_,0,none⟩ 2 2 [lT n1,lT n2] (by rfl) (by rfl) (by decide) (World.news_of_block (cs:= #[.int .u8 (lT n1).toNat, .int .u8 (lT n2).toNat]) (t:=5) (fr:=(0,0)) (heap_alloc_new _ _)) (by simp;omega) (by simp;omega) ?_;intro g3 Bb w3 eH jU;have h3:Wrote B w w3:=Wrote.grown (h2.ext hB Xt) hB (dL.out.ext Xt) jU;have p6:=ae eH;clear eH jU)
     all_goals
      go_wp2_with fail;go_roundg (s.size-(k+1))
      case measure=>omega
      case rel=>exact⟨k+1,acc++ [92,117,48,48,lT n1,lT n2],some ⟨g3,0,none⟩,Bb,by omega,by go_num,rfl,by simp,by have:=p6.out;simpa using this,ui hlt fD.out HE.out,by simp;omega,h3⟩
   have c32:¬(s[k].toNat:Int)<32:=fun h=>hlo (.inl h);have c127:¬(s[k].toNat:Int)=127:=fun h=>hlo (.inr h);have abY:((s[k].toNat:Int)==127)=false:=by simpa using c127
   have b32:decide ((s[k].toNat:Int)<32)=false:=by simpa using c32
   clear hlo;have hE:iN s[k]= [s[k]]:=by
    have e:∀n:Nat,n<256-> (s[k].toNat:Int)≠n->s[k]≠UInt8.ofNat n:=fun n hn h h'=>h (by rw [h'];simp;omega);have Mc:s[k]≠34:=e 34 (by omega) lW;have Md:s[k]≠92:=e 92 (by omega) r9;have e8:s[k]≠8:=e 8 (by omega) c8;have e12:s[k]≠12:=e 12 (by omega) c12;have e10:s[k]≠10:=e 10 (by omega) c10;have Me:s[k]≠13:=e 13 (by omega) c13;have e9:s[k]≠9:=e 9 (by omega) c9;have abZ:s[k]≠127:=e 127 (by omega) c127;have Mf:¬s[k].toNat<32:=by omega
    unfold iN;simp only [Mc,Md,e8,e12,e10,Me,e9,abZ,Mf,or_self,if_false]
   have HE:=ae hE;clear hE;go_wp2_with (at_builtin;refine nU (by rfl) _ _ _ (by rfl) (by rfl) B (.slice a0 acc.length c0) acc (by rfl) (HO.out.ext Xt) ⟨wr.heap.size,0,none⟩ 1 1 [s[k]] (by rfl) (by rfl) (World.news_of_block (cs:= #[.int .u8 s[k].toNat]) (t:=5) (fr:=(0,0)) (heap_alloc_new wr _)) (by omega) (by simp;omega) ?_;intro v2 w2 hown2 hgrow2;have h2:Wrote B w w2:=Wrote.grown (w:=wr.alloc _) (hx.ext hB Xt) hB (HO.out.ext Xt) hgrow2;obtain⟨a2,c2,rfl,-⟩:=hown2.form;have dL:=ae hown2;clear hown2 hgrow2);go_roundg (s.size-(k+1))
   case measure=>omega
   case rel=>exact⟨k+1,acc++ [s[k]],a2,c2,by omega,by go_num,rfl,by simp,dL.out,ui hlt fD.out HE.out,by simp;omega,h2⟩
  ·obtain rfl:k=s.size:=by omega
   go_wp2_with (at_builtin;refine nU (by rfl) _ _ _ (by rfl) (by rfl) B (.slice a0 acc.length c0) acc (by rfl) (HO.out.ext Xt) ⟨wr.heap.size,0,none⟩ 1 1 [34] (by rfl) (by rfl) (World.news_of_block (cs:= #[.int .u8 34]) (t:=5) (fr:=(0,0)) (heap_alloc_new wr _)) (by omega) (by simp;omega) ?_;intro v2 w2 hown2 hgrow2;have h2:Wrote B w w2:=Wrote.grown (w:=wr.alloc _) (hx.ext hB Xt) hB (HO.out.ext Xt) hgrow2;obtain⟨a2,c2,rfl,-⟩:=hown2.form;have dL:=ae hown2;clear hown2 hgrow2);refine aG (h:= ?_);refine⟨_,rfl,?_,h2⟩;have e:=fD.out;rw [List.drop_eq_nil_of_le (by rw [Array.length_toList];exact Nat.le_refl _),List.flatMap_nil,List.nil_append] at e;rw [<-e];simpa using dL.out
theorem SI {w:World} {B:Nat} {v:Value} {l:Bytes} (h:dt w B v l):(convert 87 9 v).run prog w= .ok (.string ⟨l.toArray⟩) w:=by
 rcases h.2 with⟨rfl,hn⟩|⟨g,cap,cur,rfl,-,hg,-,-,-,ht⟩
 ·obtain rfl:=List.length_eq_zero_iff.1 hn
  exact Lib.run_convert_nil_bytes w _ _ 5 0 (by kernel_rfl) (by kernel_rfl) (by kernel_rfl)
 ·exact run_convert_bytes_back w _ _ 5 _ cap l (by kernel_rfl) (by kernel_rfl) (by kernel_rfl) (Lib.bytes_of_row hg (by rw [Nat.mul_one] at ht;exact ht))
def za (b:Bool):Bytes:=if b then [116,114,117,101] else [102,97,108,115,101]
theorem abC (B:Nat) (v:Value) (l:Bytes) (b:Bool) (w:World) (hn:l.length<=1099511627776) (hB:B<=w.heap.size) (hown:dt w B v l):
 Calls prog 98 #[v, .bool b] w fun e w'=>∃v',e= .returned v'/\dt w' B v' (l++za b)/\Wrote B w w':=by
 obtain⟨av,cv,rfl,-⟩:=hown.form;have ck:=ae hown;clear hown
 cases b with
 |true=>
  go_enter func98,ntmps98;go_wp2_with (at_builtin;refine tF (by rfl) _ _ _ _ (by rfl) (by rfl) (by rfl) B (.slice av l.length cv) l (by rfl) (ck.out.ext Xt) ⟨#[116,114,117,101]⟩ (by rfl) (by simp [ByteArray.size];omega) (by first|omega|(simp;omega)) ?_;intro v2 w2 hown2 hgrow2;have h2:Wrote B w w2:=Wrote.grown ((Wrote.refl B w).ext hB Xt) hB (ck.out.ext Xt) hgrow2;have dL:=ae hown2;clear hown2 hgrow2);refine aG (h:= ?_);exact⟨_,rfl,by simpa [za] using dL.out,h2⟩
 |false=>
  go_enter func98,ntmps98;go_wp2_with (at_builtin;refine tF (by rfl) _ _ _ _ (by rfl) (by rfl) (by rfl) B (.slice av l.length cv) l (by rfl) (ck.out.ext Xt) ⟨#[102,97,108,115,101]⟩ (by rfl) (by simp [ByteArray.size];omega) (by first|omega|(simp;omega)) ?_;intro v2 w2 hown2 hgrow2;have h2:Wrote B w w2:=Wrote.grown ((Wrote.refl B w).ext hB Xt) hB (ck.out.ext Xt) hgrow2;have dL:=ae hown2;clear hown2 hgrow2);refine aG (h:= ?_);exact⟨_,rfl,by simpa [za] using dL.out,h2⟩
theorem abD (B:Nat) (v:Value) (l:Bytes) (b:Bool) (w:World) (hn:l.length<=1099511627776) (hB:B<=w.heap.size) (hown:dt w B v l):
 Calls prog 61 #[v, .bool b] w fun e w'=>∃v',e= .returned v'/\dt w' B v' (l++za b)/\Wrote B w w':=by
 obtain⟨av,cv,rfl,-⟩:=hown.form;have ck:=ae hown;clear hown;go_enter func61,ntmps61;go_wp2_with fail;(refine(abC B _ l b _ hn (by omega) (ck.out.ext Xt)).mono ?_);rintro e w1 ⟨v1,rfl,hown1,h1⟩;obtain⟨a1,c1,rfl,-⟩:=hown1.form;have oJ:=ae hown1;clear hown1;go_wp2_with fail;refine aG (h:= ?_);exact⟨_,rfl,by simpa using oJ.out,h1⟩
theorem A7 {B:Nat} {w w':World} (h:Wrote B w w') {x:V} {ka:aq} {kc:Nat} {la:aq} {lc:Nat} (hin:x.In w (fun b=>b<B) ka kc la lc):x.In w' (fun b=>b<B) ka kc la lc:=
 hin.keep (fun b hb _=>Below.block h.below b hb) (fun _ h _=>h)
theorem go_step (o:Bool) (x:V) {k:Nat} (h:k<x.l.length):V.text.go o (decide (k=0)) (x.keys.drop k) (x.l.drop k)=(if k=0 then [] else [44])++((if o then kS ((x.keys.drop k).headD ⟨#[]⟩).data.toList++ [58] else [])++(x.l[k].text++V.text.go o (decide (k+1=0)) (x.keys.drop (k+1)) (x.l.drop (k+1)))):=by
 rw [List.drop_eq_getElem_cons h,AU,List.tail_drop];simp
theorem abE {x:V} (h:x.k=5):x.text=123::(V.text.go true true x.keys x.l++ [125]):=by rw [vh,h];simp
theorem abF {x:V} (h:x.k=4):x.text=91::(V.text.go false true x.keys x.l++ [93]):=by rw [vh,h];simp
theorem abG (B:Nat) (m:Nat):∀(x:V) (ka:aq) (kc:Nat) (la:aq) (lc:Nat) (v:Value) (l:Bytes) (w:World),x.size<=m->x.size<=1048576->x.sound->x.In w (fun b=>b<B) ka kc la lc->l.length+x.text.length<=1099511627776->
 Lib.TabBelow prog B w "internal/strconv.uint64pow10" .u64 Lib.pow10Tab->B<=w.heap.size->dt w B v l->
 Calls prog 40 #[v,x.val ka kc la lc] w fun e w'=>∃v',e= .returned v'/\dt w' B v' (l++x.text)/\Wrote B w w':=by
 induction m with
 |zero=>intro x _ _ _ _ _ _ _ h;have:=x.size_pos;omega
 |succ m ih=>
  intro x ka kc la lc v l w hm hsz hs hin LO r7 hB hown;obtain⟨av,cv,rfl,-⟩:=hown.form;have hf:=hs.flat;have Hf:=ae hf;have Hs:=ae hs;have aJ:=ae hin;have ck:=ae hown;have Ih:=ae ih;have gh:=hf.k0;have mP:=hf.k5;have ahe:=hf.F7;have ahf:=hf.F8;have hl:=x.kI;clear hs hin hown ih hf;by_cases k0:x.k=0
  ·have mv:=ae (show x.text= [110,117,108,108] by rw [vh,k0];rfl)
   rw [mv.out] at LO⊢;go_enter func40,ntmps40;go_wp2_with (at_builtin;refine tF (by rfl) _ _ _ _ (by rfl) (by rfl) (by rfl) B (.slice av l.length cv) l (by rfl) (ck.out.ext Xt) ⟨#[110,117,108,108]⟩ (by rfl) (by simp [ByteArray.size];omega) (by first|omega|(simp;omega)) ?_;intro v2 w2 hown2 hgrow2;have h2:Wrote B w w2:=Wrote.grown ((Wrote.refl B w).ext hB Xt) hB (ck.out.ext Xt) hgrow2;have dL:=ae hown2;clear hown2 hgrow2);refine aG (h:= ?_);exact⟨_,rfl,by simpa [za] using dL.out,h2⟩
  by_cases k1:x.k=1
  ·have mv:=ae (show x.text=za (x.n==1) by rw [vh,k1];unfold za;simp)
   rw [mv.out];go_enter func40,ntmps40;go_wp2_with fail;(refine(abD B _ l _ _ (by omega) (by simp;omega) (ck.out.ext Xt)).mono ?_);rintro e w1 ⟨v1,rfl,hown1,h1⟩;obtain⟨a1,c1,rfl,-⟩:=hown1.form;have oJ:=ae hown1;clear hown1;have h2:Wrote B w w1:=((Wrote.refl B w).ext hB Xt).trans h1;go_wp2_with fail;refine aG (h:= ?_);exact⟨_,rfl,by simpa using oJ.out,h2⟩
  by_cases k2:x.k=2
  ·have mv:=ae (show x.text=Lib.itoa x.n by rw [vh,k2];rfl)
   rw [mv.out];go_enter func40,ntmps40;go_wp2_with fail;(refine(Tryz.strconv_AppendInt_10 B l.length x.n (by omega) (by omega) _ (Lib.byteCells l) _ (ck.out.ext Xt) (by simp;omega) (by omega) (r7.on (Wrote.below ((Wrote.refl B w).ext hB Xt)))).mono ?_);rintro e w1 ⟨v1,rfl,hown1,hb1,p5⟩;have hown1:dt w1 B v1 (l++Lib.itoa x.n):=by unfold dt;rw [List.length_append,Lib.byteCells_append];exact hown1
   obtain⟨a1,c1,rfl,-⟩:=hown1.form;have oJ:=ae hown1;clear hown1;have h2:Wrote B w w1:=((Wrote.refl B w).ext hB Xt).trans ⟨hb1,p5⟩;go_wp2_with fail;refine aG (h:= ?_);exact⟨_,rfl,by simpa using oJ.out,h2⟩
  by_cases k3:x.k=3
  ·have mv:=ae (show x.text=kS x.s.data.toList by rw [vh,k3];rfl)
   have SJ:=(KW Hf.out.sp).2;rw [Array.length_toList] at SJ;have ahg:x.s.size<=60:=SJ;rw [mv.out];go_enter func40,ntmps40;go_wp2_with fail;(refine(LP B _ l x.s _ (by omega) (by omega) (by simp;omega) (ck.out.ext Xt)).mono ?_);rintro e w1 ⟨v1,rfl,hown1,h1⟩;obtain⟨a1,c1,rfl,-⟩:=hown1.form;have oJ:=ae hown1;clear hown1;have h2:Wrote B w w1:=((Wrote.refl B w).ext hB Xt).trans h1;go_wp2_with fail;refine aG (h:= ?_);exact⟨_,rfl,by simpa using oJ.out,h2⟩
  by_cases k4:x.k=4
  ·have mv:=ae (abF k4)
   have A8:=LO;rw [mv.out] at A8;simp only [List.length_cons,List.length_append,List.length_nil] at A8;go_enter func40,ntmps40;go_wp2_with (at_builtin;refine nU (by rfl) _ _ _ (by rfl) (by rfl) B (.slice av l.length cv) l (by rfl) (ck.out.ext Xt) ⟨w.heap.size+1,0,none⟩ 1 1 [91] (by rfl) (by rfl) (by exact World.news_of_block (cs:= #[.int .u8 91]) (t:=5) (fr:=(0,0)) (by simpa using heap_alloc_new (w.alloc _) _)) (by omega) (by simp;omega) ?_;intro v1 w1 hown1 hgrow1;have h1:Wrote B w w1:=Wrote.grown ((Wrote.refl B w).ext hB Xt) hB (ck.out.ext Xt) hgrow1;have ze:aD w1 w.heap.size x ka kc la lc:=af.wrote (Wrote.grown (Wrote.refl B _) (by simp;omega) (ck.out.ext Xt) hgrow1) aj (by decide);obtain⟨a1,c1,rfl,-⟩:=hown1.form;have oJ:=ae hown1;clear hown1 hgrow1;obtain⟨LQ,LR,LS⟩:=ze.see)
   go_loopg [0,7,8,44] x.l.length (fun g t0 _ _ i wr=>∃(k:Nat) (acc:Bytes) (a0:aq) (c0:Nat),k<=x.l.length/\i= .int .i64 k/\g=x.l.length-k/\t0= .slice a0 acc.length c0/\dt wr B (.slice a0 acc.length c0) acc/\acc++(V.text.go false (decide (k=0)) (x.keys.drop k) (x.l.drop k)++ [93])=l++x.text/\aD wr w.heap.size x ka kc la lc/\Wrote B w wr)
   case atStart=>exact⟨0,l++ [91],a1,c1,by omega,rfl,rfl,by simp,oJ.out,by rw [mv.out];simp,ze,h1⟩
   case round=>
    clear LQ LR LS ze h1 oJ;obtain⟨k,acc,a0,c0,hk,rfl,rfl,rfl,hO,hacc,ag,hx⟩:=hrel;have hlen:=congrArg List.length hacc;rw [List.length_append] at hlen;have hBr:=Nat.le_trans hB hx.size;have HO:=ae hO;have fD:=ae hacc;clear hO hacc;obtain⟨hc0,aw,hl0⟩:=ag.see;by_cases hlt:k<x.l.length
    ·have hinr:x.In wr (fun b=>b<B) ka kc la lc:=aJ.out.keep (fun b hb _=>Below.block hx.below b hb) (fun _ h _=>h)
     obtain⟨b,o,rfl,hS,cI,cJ,cK,cL,⟨d0,d1,d2,d3,d4⟩,bZ⟩:=hinr.item hlt;have cE:=ae bZ;have hsz:=V.qi hlt;have cP:=Hs.out.item (List.getElem_mem hlt);have aQ:=ae (go_step false x hlt);rw [aQ.out] at hlen;clear bZ;go_upto_region 17 with fail
     refine aI (R:=fun wx=>aD wx w.heap.size x ka kc (some ⟨b,o,none⟩) lc/\aD wx wr.heap.size x.l[k] cI cJ cK cL/\Ext wr wx) ⟨aj,aj,Xt⟩ ?_;clear ag hc0 aw hl0;rintro wi ⟨ag,lV,jr⟩;obtain⟨hc0,aw,hl0⟩:=ag.see;obtain⟨A9,Ba,zf⟩:=lV.see;have uh:Wrote B w wi:=hx.ext hB jr;have jq:=Nat.le_trans hB uh.size;have zg:=ae (dt.ext HO.out jr);have DN:=ae (V.In.ext cE.out jr);by_cases gh:k=0
     ·have hkb:decide ((0:Int)<(k:Int))=false:=by simp [gh]
      have hkn:¬0<k:=by omega
      simp only [if_pos gh,Bool.false_eq_true,if_false,List.length_append,List.length_cons,List.length_nil] at hlen;have qI:=ae gh;clear gh;go_wp2_with (first|(go_at_call 40;refine(Ih.out x.l[k] cI cJ cK cL (.slice a0 acc.length c0) (acc) _ (by omega) (by omega) cP DN.out (by(try simp only [List.length_append,List.length_cons,List.length_nil]);omega) (r7.on (Wrote.below uh)) (Nat.le_trans hB (Wrote.size uh)) zg.out).mono ?_;rintro e w9 ⟨v9,rfl,oK,h9⟩;have gY:Wrote B w w9:=Wrote.trans uh h9;have zh:=af.wrote h9 ag (by decide);obtain⟨a9,c9,rfl,-⟩:=oK.form;have zi:=ae oK;clear oK));go_roundg (x.l.length-(k+1))
      case measure=>omega
      case rel=>exact⟨k+1,acc++x.l[k].text,a9,c9,by omega,by go_num,rfl,by simp,zi.out,by rw [<-fD.out,aQ.out,if_pos qI.out];simp,zh,gY⟩
     ·have hkb:decide ((0:Int)<(k:Int))=true:=by simp;omega
      have hkn:0<k:=by omega
      simp only [if_neg gh,Bool.false_eq_true,if_false,List.length_append,List.length_cons,List.length_nil] at hlen;have qI:=ae gh;clear gh;go_wp2_with (at_builtin;refine nU (by rfl) _ _ _ (by rfl) (by rfl) B (.slice a0 acc.length c0) acc (by rfl) (zg.out.ext Xt) ⟨wi.heap.size,0,none⟩ 1 1 [44] (by rfl) (by rfl) (World.news_of_block (cs:= #[.int .u8 44]) (t:=5) (fr:=(0,0)) (heap_alloc_new wi _)) (by omega) (by simp;omega) ?_;intro v3 w3 eH jU;have g3:Wrote B wi w3:=Wrote.grown ((Wrote.refl B wi).ext jq Xt) jq (zg.out.ext Xt) jU;have hw3:Wrote B w w3:=uh.trans g3;obtain⟨a3,c3,rfl,-⟩:=eH.form;have p6:=ae (show dt w3 B (.slice a3 (acc.length+1) c3) (acc++ [44]) by simpa using eH);have oL:=af.wrote g3 ag (by decide);have G3:=af.wrote g3 lV (by decide);obtain⟨abH,abI,abJ⟩:=oL.see;obtain⟨abK,abL,abM⟩:=G3.see;have bN:=ae (A7 g3 DN.out);skip;clear eH jU);go_wp2_with (first|(go_at_call 40;refine(Ih.out x.l[k] cI cJ cK cL (.slice a3 (acc.length+1) c3) (acc++ [44]) _ (by omega) (by omega) cP bN.out (by(try simp only [List.length_append,List.length_cons,List.length_nil]);omega) (r7.on (Wrote.below hw3)) (Nat.le_trans hB (Wrote.size hw3)) p6.out).mono ?_;rintro e w9 ⟨v9,rfl,oK,h9⟩;have gY:Wrote B w w9:=Wrote.trans hw3 h9;have zh:=af.wrote h9 oL (by decide);obtain⟨a9,c9,rfl,-⟩:=oK.form;have zi:=ae oK;clear oK));go_roundg (x.l.length-(k+1))
      case measure=>omega
      case rel=>exact⟨k+1,acc++ [44]++x.l[k].text,a9,c9,by omega,by go_num,rfl,by simp,zi.out,by rw [<-fD.out,aQ.out,if_neg qI.out];simp,zh,gY⟩
    ·obtain rfl:k=x.l.length:=by omega
     go_wp2_with (at_builtin;refine nU (by rfl) _ _ _ (by rfl) (by rfl) B (.slice a0 acc.length c0) acc (by rfl) (HO.out.ext Xt) ⟨wr.heap.size,0,none⟩ 1 1 [93] (by rfl) (by rfl) (World.news_of_block (cs:= #[.int .u8 93]) (t:=5) (fr:=(0,0)) (heap_alloc_new wr _)) (by simp at hlen;omega) (by simp;omega) ?_;intro v2 w2 hown2 hgrow2;have h2:Wrote B w w2:=Wrote.grown (hx.ext hB Xt) hB (HO.out.ext Xt) hgrow2;have dL:=ae hown2;clear hown2 hgrow2);refine aG (h:= ?_);refine⟨_,rfl,?_,h2⟩;have e:=fD.out;rw [List.drop_eq_nil_of_le (Nat.le_refl _),AR,List.nil_append] at e;rw [<-e];exact dL.out
  ·have k5:x.k=5:=by omega
   have mv:=ae (abE k5);have A8:=LO;rw [mv.out] at A8;simp only [List.length_cons,List.length_append,List.length_nil] at A8;go_enter func40,ntmps40;go_wp2_with (at_builtin;refine nU (by rfl) _ _ _ (by rfl) (by rfl) B (.slice av l.length cv) l (by rfl) (ck.out.ext Xt) ⟨w.heap.size+1,0,none⟩ 1 1 [123] (by rfl) (by rfl) (by exact World.news_of_block (cs:= #[.int .u8 123]) (t:=5) (fr:=(0,0)) (by simpa using heap_alloc_new (w.alloc _) _)) (by omega) (by simp;omega) ?_;intro v1 w1 hown1 hgrow1;have h1:Wrote B w w1:=Wrote.grown ((Wrote.refl B w).ext hB Xt) hB (ck.out.ext Xt) hgrow1;have ze:aD w1 w.heap.size x ka kc la lc:=af.wrote (Wrote.grown (Wrote.refl B _) (by simp;omega) (ck.out.ext Xt) hgrow1) aj (by decide);obtain⟨a1,c1,rfl,-⟩:=hown1.form;have oJ:=ae hown1;clear hown1 hgrow1;obtain⟨LQ,LR,LS⟩:=ze.see)
   go_loopg [0,7,8,44] x.l.length (fun g t0 _ _ i wr=>∃(k:Nat) (acc:Bytes) (a0:aq) (c0:Nat),k<=x.l.length/\i= .int .i64 k/\g=x.l.length-k/\t0= .slice a0 acc.length c0/\dt wr B (.slice a0 acc.length c0) acc/\acc++(V.text.go true (decide (k=0)) (x.keys.drop k) (x.l.drop k)++ [125])=l++x.text/\aD wr w.heap.size x ka kc la lc/\Wrote B w wr)
   case atStart=>exact⟨0,l++ [123],a1,c1,by omega,rfl,rfl,by simp,oJ.out,by rw [mv.out];simp,ze,h1⟩
   case round=>
    clear LQ LR LS ze h1 oJ;obtain⟨k,acc,a0,c0,hk,rfl,rfl,rfl,hO,hacc,ag,hx⟩:=hrel;have hlen:=congrArg List.length hacc;rw [List.length_append] at hlen;have hBr:=Nat.le_trans hB hx.size;have HO:=ae hO;have fD:=ae hacc;clear hO hacc;obtain⟨hc0,aw,hl0⟩:=ag.see;by_cases hlt:k<x.l.length
    ·have hinr:x.In wr (fun b=>b<B) ka kc la lc:=aJ.out.keep (fun b hb _=>Below.block hx.below b hb) (fun _ h _=>h)
     obtain⟨b,o,rfl,hS,cI,cJ,cK,cL,⟨d0,d1,d2,d3,d4⟩,bZ⟩:=hinr.item hlt;have cE:=ae bZ;have hsz:=V.qi hlt;have cP:=Hs.out.item (List.getElem_mem hlt);have aQ:=ae (go_step true x hlt);rw [aQ.out] at hlen;clear bZ;go_upto_region 17 with fail
     refine aI (R:=fun wx=>aD wx w.heap.size x ka kc (some ⟨b,o,none⟩) lc/\aD wx wr.heap.size x.l[k] cI cJ cK cL/\Ext wr wx) ⟨aj,aj,Xt⟩ ?_;clear ag hc0 aw hl0;rintro wi ⟨ag,lV,jr⟩;obtain⟨hc0,aw,hl0⟩:=ag.see;obtain⟨A9,Ba,zf⟩:=lV.see;have uh:Wrote B w wi:=hx.ext hB jr;have jq:=Nat.le_trans hB uh.size;have zg:=ae (dt.ext HO.out jr);have DN:=ae (V.In.ext cE.out jr);have hlk:k<x.keys.length:=by rw [Hf.out.len k5];exact hlt
     obtain⟨b1,o1,rfl,hS1,d5⟩:=hinr.key hlk;have d5:=jr.cell d5;have hks:=(KW (Hf.out.kp _ (List.getElem_mem hlk))).2;rw [Array.length_toList] at hks;have ahh:x.keys[k].size<=60:=hks;have mh:(0:Int)<= (k:Int):=by omega
     have ml:(k:Int)<(x.keys.length:Int):=by omega
     have LU:=ae (show (x.keys.drop k).headD ⟨#[]⟩=x.keys[k] by rw [List.drop_eq_getElem_cons hlk];rfl);rw [LU.out] at hlen;by_cases gh:k=0
     ·have hkb:decide ((0:Int)<(k:Int))=false:=by simp [gh]
      have hkn:¬0<k:=by omega
      simp only [if_pos gh,if_true,List.length_append,List.length_cons,List.length_nil] at hlen;have qI:=ae gh;clear gh
      go_wp2_with (first|(go_at_call 40;refine(Ih.out x.l[k] cI cJ cK cL (.slice a5 (L4.length+1) c5) (L4++ [58]) _ (by omega) (by omega) cP gI.out (by(try simp only [List.length_append,List.length_cons,List.length_nil]);omega) (r7.on (Wrote.below tN)) (Nat.le_trans hB (Wrote.size tN)) iR.out).mono ?_;rintro e w9 ⟨v9,rfl,oK,h9⟩;have gY:Wrote B w w9:=Wrote.trans tN h9;have zh:=af.wrote h9 oI (by decide);obtain⟨a9,c9,rfl,-⟩:=oK.form;have zi:=ae oK;clear oK)|(go_at_call 63;refine(LP B (.slice a0 acc.length c0) (acc) x.keys[k] _ (by omega) (by(try simp only [List.length_append,List.length_cons,List.length_nil]);omega) (Nat.le_trans hB (Wrote.size uh)) zg.out).mono ?_;rintro e w4 ⟨v4,rfl,lI,h4⟩;obtain⟨L4,hL4⟩:∃L4,L4=acc++kS x.keys[k].data.toList:=⟨_,rfl⟩;rw [<-hL4] at lI;have LV:=Nat.le_of_eq (congrArg List.length hL4);(simp only [List.length_append,List.length_cons,List.length_nil] at LV);have LW:=ae hL4;have hw4:Wrote B w w4:=Wrote.trans uh h4;have hB4:=Nat.le_trans hB hw4.size;have r8:=af.wrote h4 ag (by decide);have zj:=af.wrote h4 lV (by decide);have eF:=ae (A7 h4 DN.out);obtain⟨a4,c4,rfl,-⟩:=lI.form;have DR:=ae lI;clear lI hL4;obtain⟨LX,LY,LZ⟩:=r8.see;obtain⟨L5,L6,L8⟩:=zj.see)
                                                                                                                                                                                                                                                                                                                                                                                                               |(at_builtin;refine nU (by rfl) _ _ _ (by rfl) (by rfl) B (.slice a4 L4.length c4) L4 (by rfl) (DR.out.ext Xt) ⟨w4.heap.size,0,none⟩ 1 1 [58] (by rfl) (by rfl) (World.news_of_block (cs:= #[.int .u8 58]) (t:=5) (fr:=(0,0)) (heap_alloc_new w4 _)) (by omega) (by simp;omega) ?_;intro v5 w5 dR cG;have g5:Wrote B w4 w5:=Wrote.grown ((Wrote.refl B w4).ext hB4 Xt) hB4 (DR.out.ext Xt) cG;have tN:Wrote B w w5:=hw4.trans g5;obtain⟨a5,c5,rfl,-⟩:=dR.form;have iR:=ae (show dt w5 B (.slice a5 (L4.length+1) c5) (L4++ [58]) by simpa using dR);have oI:=af.wrote g5 r8 (by decide);have L9:=af.wrote g5 zj (by decide);obtain⟨abN,abO,abP⟩:=oI.see;obtain⟨abQ,abR,abS⟩:=L9.see;have gI:=ae (A7 g5 eF.out);clear dR cG LX LY L5 L6 LZ L8 r8 zj))
      go_roundg (x.l.length-(k+1))
      case measure=>omega
      case rel=>exact⟨k+1,L4++ [58]++x.l[k].text,a9,c9,by omega,by go_num,rfl,by simp,zi.out,by rw [<-fD.out,aQ.out,if_pos qI.out,LW.out,LU.out];simp,zh,gY⟩
     ·have hkb:decide ((0:Int)<(k:Int))=true:=by simp;omega
      have hkn:0<k:=by omega
      simp only [if_neg gh,if_true,List.length_append,List.length_cons,List.length_nil] at hlen;have qI:=ae gh;clear gh;go_wp2_with (at_builtin;refine nU (by rfl) _ _ _ (by rfl) (by rfl) B (.slice a0 acc.length c0) acc (by rfl) (zg.out.ext Xt) ⟨wi.heap.size,0,none⟩ 1 1 [44] (by rfl) (by rfl) (World.news_of_block (cs:= #[.int .u8 44]) (t:=5) (fr:=(0,0)) (heap_alloc_new wi _)) (by omega) (by simp;omega) ?_;intro v3 w3 eH jU;have g3:Wrote B wi w3:=Wrote.grown ((Wrote.refl B wi).ext jq Xt) jq (zg.out.ext Xt) jU;have hw3:Wrote B w w3:=uh.trans g3;obtain⟨a3,c3,rfl,-⟩:=eH.form;have p6:=ae (show dt w3 B (.slice a3 (acc.length+1) c3) (acc++ [44]) by simpa using eH);have oL:=af.wrote g3 ag (by decide);have G3:=af.wrote g3 lV (by decide);obtain⟨abH,abI,abJ⟩:=oL.see;obtain⟨abK,abL,abM⟩:=G3.see;have bN:=ae (A7 g3 DN.out);have d53:=(Below.cell (p:=⟨b1,o1+k,none⟩) g3.below hS1).trans d5;clear eH jU)
      go_wp2_with (first|(go_at_call 40;refine(Ih.out x.l[k] cI cJ cK cL (.slice a5 (L4.length+1) c5) (L4++ [58]) _ (by omega) (by omega) cP gI.out (by(try simp only [List.length_append,List.length_cons,List.length_nil]);omega) (r7.on (Wrote.below tN)) (Nat.le_trans hB (Wrote.size tN)) iR.out).mono ?_;rintro e w9 ⟨v9,rfl,oK,h9⟩;have gY:Wrote B w w9:=Wrote.trans tN h9;have zh:=af.wrote h9 oI (by decide);obtain⟨a9,c9,rfl,-⟩:=oK.form;have zi:=ae oK;clear oK)|(go_at_call 63;refine(LP B (.slice a3 (acc.length+1) c3) (acc++ [44]) x.keys[k] _ (by omega) (by(try simp only [List.length_append,List.length_cons,List.length_nil]);omega) (Nat.le_trans hB (Wrote.size hw3)) p6.out).mono ?_;rintro e w4 ⟨v4,rfl,lI,h4⟩;obtain⟨L4,hL4⟩:∃L4,L4=acc++ [44]++kS x.keys[k].data.toList:=⟨_,rfl⟩;rw [<-hL4] at lI;have LV:=Nat.le_of_eq (congrArg List.length hL4);(simp only [List.length_append,List.length_cons,List.length_nil] at LV);have LW:=ae hL4;have hw4:Wrote B w w4:=Wrote.trans hw3 h4;have hB4:=Nat.le_trans hB hw4.size;have r8:=af.wrote h4 oL (by decide);have zj:=af.wrote h4 G3 (by decide);have eF:=ae (A7 h4 bN.out);obtain⟨a4,c4,rfl,-⟩:=lI.form;have DR:=ae lI;clear lI hL4;obtain⟨LX,LY,LZ⟩:=r8.see;obtain⟨L5,L6,L8⟩:=zj.see)
                                                                                                                                                                                                                                                                                                                                                                                                               |(at_builtin;refine nU (by rfl) _ _ _ (by rfl) (by rfl) B (.slice a4 L4.length c4) L4 (by rfl) (DR.out.ext Xt) ⟨w4.heap.size,0,none⟩ 1 1 [58] (by rfl) (by rfl) (World.news_of_block (cs:= #[.int .u8 58]) (t:=5) (fr:=(0,0)) (heap_alloc_new w4 _)) (by omega) (by simp;omega) ?_;intro v5 w5 dR cG;have g5:Wrote B w4 w5:=Wrote.grown ((Wrote.refl B w4).ext hB4 Xt) hB4 (DR.out.ext Xt) cG;have tN:Wrote B w w5:=hw4.trans g5;obtain⟨a5,c5,rfl,-⟩:=dR.form;have iR:=ae (show dt w5 B (.slice a5 (L4.length+1) c5) (L4++ [58]) by simpa using dR);have oI:=af.wrote g5 r8 (by decide);have L9:=af.wrote g5 zj (by decide);obtain⟨abN,abO,abP⟩:=oI.see;obtain⟨abQ,abR,abS⟩:=L9.see;have gI:=ae (A7 g5 eF.out);clear dR cG LX LY L5 L6 LZ L8 r8 zj))
      go_roundg (x.l.length-(k+1))
      case measure=>omega
      case rel=>exact⟨k+1,L4++ [58]++x.l[k].text,a9,c9,by omega,by go_num,rfl,by simp,zi.out,by rw [<-fD.out,aQ.out,if_neg qI.out,LW.out,LU.out];simp,zh,gY⟩
    ·obtain rfl:k=x.l.length:=by omega
     go_wp2_with (at_builtin;refine nU (by rfl) _ _ _ (by rfl) (by rfl) B (.slice a0 acc.length c0) acc (by rfl) (HO.out.ext Xt) ⟨wr.heap.size,0,none⟩ 1 1 [125] (by rfl) (by rfl) (World.news_of_block (cs:= #[.int .u8 125]) (t:=5) (fr:=(0,0)) (heap_alloc_new wr _)) (by simp at hlen;omega) (by simp;omega) ?_;intro v2 w2 hown2 hgrow2;have h2:Wrote B w w2:=Wrote.grown (hx.ext hB Xt) hB (HO.out.ext Xt) hgrow2;have dL:=ae hown2;clear hown2 hgrow2);refine aG (h:= ?_);refine⟨_,rfl,?_,h2⟩;have e:=fD.out;rw [List.drop_eq_nil_of_le (Nat.le_refl _),AR,List.nil_append] at e;rw [<-e];exact dL.out
theorem SK (s:Bytes):(kS s).length<=6*s.length+2:=by
 unfold kS;have:(s.flatMap iN).length<=6*s.length:=by
  induction s with
  |nil=>simp
  |cons c t ih=>rw [List.flatMap_cons,List.length_append,List.length_cons];have:=abT c;omega
 simp only [List.length_cons,List.length_append,List.length_nil];omega
theorem abU (k:ah) (ks:List ah):fw (k::ks)=k.size+1+fw ks:=by simp [fw];try omega
theorem abV (x:V):x.sound->x.text.length+10<=30*x.size:=by
 induction x using V.ind with
 |h x ih=>
  intro hs;have hf:=hs.flat;have hgo:∀(o first:Bool) (r:List V) (ks:List ah),(∀y∈r,y∈x.l)-> (V.text.go o first ks r).length<=6*fw ks+30*(r.map V.size).sum:=by
   intro o first r
   induction r generalizing first with
   |nil=>intro ks _;rw [AR];simp
   |cons y r ihr=>
    intro ks hr;rw [AU];have h1:=ih y (hr y (by simp)) (hs.item (hr y (by simp)));have h2:=ihr false ks.tail (fun z hz=>hr z (by simp [hz]));have h3:(if first=true then([]:Bytes) else [44]).length<=1:=by cases first<;>simp
    cases ks with
    |nil=>
     have h4:(if o=true then kS (([]:List ah).headD ⟨#[]⟩).data.toList++ [58] else []).length<=3:=by cases o<;>decide
     simp only [List.length_append,List.map_cons,List.sum_cons,List.tail_nil] at*;omega
    |cons k ks=>
     have h4:(if o=true then kS ((k::ks).headD ⟨#[]⟩).data.toList++ [58] else []).length<=6*k.size+3:=by
      cases o
      ·simp
      ·have h5:=SK k.data.toList
       have e:k.data.toList.length=k.size:=Array.length_toList;rw [e] at h5;simp only [if_true,List.headD_cons,List.length_append,List.length_cons,List.length_nil];omega
     rw [abU];simp only [List.length_append,List.map_cons,List.sum_cons,List.tail_cons] at*;omega
  have ha:=hgo true true x.l x.keys (fun y h=>h);have hb:=hgo false true x.l x.keys (fun y h=>h);have hi:=QZ hf.F7 hf.F8;have hq:=SK x.s.data.toList;have e:x.s.data.toList.length=x.s.size:=Array.length_toList;rw [e] at hq;rw [vh,V.size_eq]
  repeat' split
  all_goals (try simp only [List.length_cons,List.length_append,List.length_nil])
  all_goals omega
theorem Ma (x:V) (ka:aq) (kc:Nat) (la:aq) (lc:Nat) (S:aA) (w:World) (hsz:x.size<=1073741824) (ki:x.In w S ka kc la lc) (hl:cZ w):
 Calls prog 21 #[x.val ka kc la lc] w fun e w'=>e= .returned (.tuple #[.string ⟨(gf x).1.toArray⟩, .int .i64 (gf x).2])/\Ext w w':=by
 have aJ:=ae (show x.In w (fun b=>b<w.heap.size) ka kc la lc from ki.mono fun b _ h=>h);clear ki;by_cases hf:x.fine=true
 ·have cS:=gV hf
  have hfs:=qh hf;have htl:=abV x cS;go_enter func21,ntmps21;go_wp2_with fail;(refine(df x ka kc la lc _ _ (by omega) (aJ.out.ext Xt)).mono ?_);rintro e w1 ⟨rfl,h1⟩;rw [hf];have hx1:Ext w w1:=Xt;have hB:aD w1 w.heap.size x ka kc la lc:=af.ext h1 aj;clear h1;obtain⟨hc0,aw,hl0⟩:=hB.see;have r7:=Lib.tabBelow_of_tabIs (hl.ext hx1).tab;go_wp2_with fail;(refine(abG w1.heap.size x.size x ka kc la lc (.slice none 0 0) [] _ (Nat.le_refl _) (by omega) cS ((aJ.out.ext hx1).mono (fun b _ h=>h)) (by simp only [List.length_nil];omega) r7 (Nat.le_refl _) (dt.nil _ _)).mono ?_);rintro e w2 ⟨v2,rfl,hown2,h2⟩;rw [List.nil_append] at hown2;have hcv:=SI hown2;obtain⟨a2,c2,rfl,-⟩:=hown2.form;have hx2:Ext w w2:=hx1.trans h2.below;clear hown2 h2;by_cases hlo:2000<x.text.length
  ·have hp:gf x=([],2):=by unfold gf;rw [if_neg (by rw [hf];decide),if_pos hlo]
   go_wp2_with fail;refine aG (h:= ?_);rw [hp];exact⟨rfl,hx2⟩
  ·have hp:gf x=(x.text,0):=by unfold gf;rw [if_neg (by rw [hf];decide),if_neg hlo]
   go_wp2_with fail;refine aG (h:= ?_);rw [hp];exact⟨rfl,hx2⟩
 ·have hf':x.fine=false:=by simpa using hf
  have hp:gf x=([],1):=by unfold gf;rw [if_pos hf']
  go_enter func21,ntmps21;go_wp2_with fail;(refine(df x ka kc la lc _ _ (by omega) (aJ.out.ext Xt)).mono ?_);rintro e w1 ⟨rfl,h1⟩;rw [hf'];go_wp2_with fail;refine aG (h:= ?_);rw [hp];exact⟨rfl,Xt⟩
end Go.Proofs.YtlcebdaghmdkeaaGreatDoor
