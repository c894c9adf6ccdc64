import Derived.Lib.BufferRead
import Derived.Test.YtlcebdaghmdkeabGreatDoorZ2
import Derived.Test.YtlcebdaghmdkeabGreatDoorZ27
import Derived.Test.YtlcebdaghmdkeabGreatDoorZ29
set_option linter.all false
set_option maxRecDepth 100000
set_option maxHeartbeats 64000000
namespace Go.Proofs.YtlcebdaghmdkeabGreatDoor
open Go.Proofs.Tryz
open Go.RowKit
attribute [local go_sem↓] Go.wp_at_zero Go.wp_at_succ
theorem SJ {w:World} {B:Nat} {v:Value} {l:Bytes} (h:dn w B v l):(convert 133 9 v).run prog w= .ok (.string ⟨l.toArray⟩) w:=by
 rcases h.2 with⟨rfl,hn⟩|⟨g,cap,cur,rfl,-,hg,-,-,-,ht⟩
 ·obtain rfl:=List.length_eq_zero_iff.1 hn
  exact Lib.run_convert_nil_bytes w _ _ 5 0 (by kernel_rfl) (by kernel_rfl) (by kernel_rfl)
 ·exact run_convert_bytes_back w _ _ 5 _ cap l (by kernel_rfl) (by kernel_rfl) (by kernel_rfl) (Lib.bytes_of_row hg (by rw [Nat.mul_one] at ht;exact ht))
def zw (b:Bool):Bytes:=if b then [116,114,117,101] else [102,97,108,115,101]
theorem abD (B:Nat) (v:Value) (l:Bytes) (b:Bool) (w:World) (hn:l.length<=1099511627776) (hB:B<=w.heap.size) (hown:dn w B v l):
 Calls prog 176 #[v, .bool b] w fun e w'=>∃v',e= .returned v'/\dn w' B v' (l++zw b)/\Wrote B w w':=by
 obtain⟨av,cv,rfl,-⟩:=hown.form;have cg:=ae hown;clear hown
 cases b with
 |true=>
  go_enter func176,ntmps176;go_wp2_with (at_builtin;refine tK (by rfl) _ _ _ _ (by rfl) (by rfl) (by rfl) B (.slice av l.length cv) l (by rfl) (cg.out.ext Xt) ⟨#[116,114,117,101]⟩ (by rfl) (by simp [ByteArray.size];omega) (by first|omega|(simp;omega)) ?_;intro v2 w2 hown2 hgrow2;have h2:Wrote B w w2:=Wrote.grown ((Wrote.refl B w).ext hB Xt) hB (cg.out.ext Xt) hgrow2;have dK:=ae hown2;clear hown2 hgrow2);refine aF (h:= ?_);exact⟨_,rfl,by simpa [zw] using dK.out,h2⟩
 |false=>
  go_enter func176,ntmps176;go_wp2_with (at_builtin;refine tK (by rfl) _ _ _ _ (by rfl) (by rfl) (by rfl) B (.slice av l.length cv) l (by rfl) (cg.out.ext Xt) ⟨#[102,97,108,115,101]⟩ (by rfl) (by simp [ByteArray.size];omega) (by first|omega|(simp;omega)) ?_;intro v2 w2 hown2 hgrow2;have h2:Wrote B w w2:=Wrote.grown ((Wrote.refl B w).ext hB Xt) hB (cg.out.ext Xt) hgrow2;have dK:=ae hown2;clear hown2 hgrow2);refine aF (h:= ?_);exact⟨_,rfl,by simpa [zw] using dK.out,h2⟩
theorem abE (B:Nat) (v:Value) (l:Bytes) (b:Bool) (w:World) (hn:l.length<=1099511627776) (hB:B<=w.heap.size) (hown:dn w B v l):
 Calls prog 125 #[v, .bool b] w fun e w'=>∃v',e= .returned v'/\dn w' B v' (l++zw b)/\Wrote B w w':=by
 obtain⟨av,cv,rfl,-⟩:=hown.form;have cg:=ae hown;clear hown;go_enter func125,ntmps125;go_wp2_with fail;(refine(abD B _ l b _ hn (by omega) (cg.out.ext Xt)).mono ?_);rintro e w1 ⟨v1,rfl,hown1,h1⟩;obtain⟨a1,c1,rfl,-⟩:=hown1.form;have nZ:=ae hown1;clear hown1;go_wp2_with fail;refine aF (h:= ?_);exact⟨_,rfl,by simpa using nZ.out,h1⟩
theorem Bi {B:Nat} {w w':World} (h:Wrote B w w') {x:V} {ka:au} {kc:Nat} {la:au} {lc:Nat} (hin:x.In w (fun b=>b<B) ka kc la lc):x.In w' (fun b=>b<B) ka kc la lc:=
 hin.keep (fun b hb _=>Below.block h.below b hb) (fun _ h _=>h)
theorem go_step (o:Bool) (x:V) {k:Nat} (h:k<x.l.length):V.text.go o (decide (k=0)) (x.keys.drop k) (x.l.drop k)=(if k=0 then [] else [44])++((if o then nT ((x.keys.drop k).headD ⟨#[]⟩).data.toList++ [58] else [])++(x.l[k].text++V.text.go o (decide (k+1=0)) (x.keys.drop (k+1)) (x.l.drop (k+1)))):=by
 rw [List.drop_eq_getElem_cons h,Q9,List.tail_drop];simp
theorem abF {x:V} (h:x.k=5):x.text=123::(V.text.go true true x.keys x.l++ [125]):=by rw [zg,h];simp
theorem abG {x:V} (h:x.k=4):x.text=91::(V.text.go false true x.keys x.l++ [93]):=by rw [zg,h];simp
theorem abH (B:Nat) (m:Nat):∀(x:V) (ka:au) (kc:Nat) (la:au) (lc:Nat) (v:Value) (l:Bytes) (w:World),x.size<=m->x.size<=1048576->x.sound->x.In w (fun b=>b<B) ka kc la lc->l.length+x.text.length<=1099511627776->
 Lib.TabBelow prog B w "internal/strconv.uint64pow10" .u64 Lib.pow10Tab->B<=w.heap.size->dn w B v l->
 Calls prog 85 #[v,x.val ka kc la lc] w fun e w'=>∃v',e= .returned v'/\dn w' B v' (l++x.text)/\Wrote B w w':=by
 induction m with
 |zero=>intro x _ _ _ _ _ _ _ h;have:=x.size_pos;omega
 |succ m ih=>
  intro x ka kc la lc v l w hm hsz hs hin LH su hB hown;obtain⟨av,cv,rfl,-⟩:=hown.form;have hf:=hs.flat;have Hf:=ae hf;have Hs:=ae hs;have aJ:=ae hin;have cg:=ae hown;have Ih:=ae ih;have gS:=hf.k0;have kA:=hf.k5;have ahb:=hf.KE;have ahc:=hf.KF;have hl:=x.kB;clear hs hin hown ih hf;by_cases k0:x.k=0
  ·have ml:=ae (show x.text= [110,117,108,108] by rw [zg,k0];rfl)
   rw [ml.out] at LH⊢;go_enter func85,ntmps85;go_wp2_with (at_builtin;refine tK (by rfl) _ _ _ _ (by rfl) (by rfl) (by rfl) B (.slice av l.length cv) l (by rfl) (cg.out.ext Xt) ⟨#[110,117,108,108]⟩ (by rfl) (by simp [ByteArray.size];omega) (by first|omega|(simp;omega)) ?_;intro v2 w2 hown2 hgrow2;have h2:Wrote B w w2:=Wrote.grown ((Wrote.refl B w).ext hB Xt) hB (cg.out.ext Xt) hgrow2;have dK:=ae hown2;clear hown2 hgrow2);refine aF (h:= ?_);exact⟨_,rfl,by simpa [zw] using dK.out,h2⟩
  by_cases k1:x.k=1
  ·have ml:=ae (show x.text=zw (x.n==1) by rw [zg,k1];unfold zw;simp)
   rw [ml.out];go_enter func85,ntmps85;go_wp2_with fail;(refine(abE B _ l _ _ (by omega) (by simp;omega) (cg.out.ext Xt)).mono ?_);rintro e w1 ⟨v1,rfl,hown1,h1⟩;obtain⟨a1,c1,rfl,-⟩:=hown1.form;have nZ:=ae hown1;clear hown1;have h2:Wrote B w w1:=((Wrote.refl B w).ext hB Xt).trans h1;go_wp2_with fail;refine aF (h:= ?_);exact⟨_,rfl,by simpa using nZ.out,h2⟩
  by_cases k2:x.k=2
  ·have ml:=ae (show x.text=Lib.itoa x.n by rw [zg,k2];rfl)
   rw [ml.out];go_enter func85,ntmps85;go_wp2_with fail;(refine(Tryz.strconv_AppendInt_10 B l.length x.n (by omega) (by omega) _ (Lib.byteCells l) _ (cg.out.ext Xt) (by simp;omega) (by omega) (su.on (Wrote.below ((Wrote.refl B w).ext hB Xt)))).mono ?_);rintro e w1 ⟨v1,rfl,hown1,hb1,sw⟩;have hown1:dn w1 B v1 (l++Lib.itoa x.n):=by unfold dn;rw [List.length_append,Lib.byteCells_append];exact hown1
   obtain⟨a1,c1,rfl,-⟩:=hown1.form;have nZ:=ae hown1;clear hown1;have h2:Wrote B w w1:=((Wrote.refl B w).ext hB Xt).trans ⟨hb1,sw⟩;go_wp2_with fail;refine aF (h:= ?_);exact⟨_,rfl,by simpa using nZ.out,h2⟩
  by_cases k3:x.k=3
  ·have ml:=ae (show x.text=nT x.s.data.toList by rw [zg,k3];rfl)
   have SK:=(Q8 Hf.out.sp).2;rw [Array.length_toList] at SK;have ahd:x.s.size<=60:=SK;rw [ml.out];go_enter func85,ntmps85;go_wp2_with fail;(refine(LI B _ l x.s _ (by omega) (by omega) (by simp;omega) (cg.out.ext Xt)).mono ?_);rintro e w1 ⟨v1,rfl,hown1,h1⟩;obtain⟨a1,c1,rfl,-⟩:=hown1.form;have nZ:=ae hown1;clear hown1;have h2:Wrote B w w1:=((Wrote.refl B w).ext hB Xt).trans h1;go_wp2_with fail;refine aF (h:= ?_);exact⟨_,rfl,by simpa using nZ.out,h2⟩
  by_cases k4:x.k=4
  ·have ml:=ae (abG k4)
   have D2:=LH;rw [ml.out] at D2;simp only [List.length_cons,List.length_append,List.length_nil] at D2;go_enter func85,ntmps85;go_wp2_with (at_builtin;refine nH (by rfl) _ _ _ (by rfl) (by rfl) B (.slice av l.length cv) l (by rfl) (cg.out.ext Xt) ⟨w.heap.size+1,0,none⟩ 1 1 [91] (by rfl) (by rfl) (by exact World.news_of_block (cs:= #[.int .u8 91]) (t:=5) (fr:=(0,0)) (by simpa using heap_alloc_new (w.alloc _) _)) (by omega) (by simp;omega) ?_;intro v1 w1 hown1 hgrow1;have h1:Wrote B w w1:=Wrote.grown ((Wrote.refl B w).ext hB Xt) hB (cg.out.ext Xt) hgrow1;have vG:aD w1 w.heap.size x ka kc la lc:=af.wrote (Wrote.grown (Wrote.refl B _) (by simp;omega) (cg.out.ext Xt) hgrow1) aj (by decide);obtain⟨a1,c1,rfl,-⟩:=hown1.form;have nZ:=ae hown1;clear hown1 hgrow1;obtain⟨LJ,LK,LL⟩:=vG.see)
   go_loopg [0,7,8,44] x.l.length (fun g t0 _ _ i wr=>∃(k:Nat) (acc:Bytes) (a0:au) (c0:Nat),k<=x.l.length/\i= .int .i64 k/\g=x.l.length-k/\t0= .slice a0 acc.length c0/\dn wr B (.slice a0 acc.length c0) acc/\acc++(V.text.go false (decide (k=0)) (x.keys.drop k) (x.l.drop k)++ [93])=l++x.text/\aD wr w.heap.size x ka kc la lc/\Wrote B w wr)
   case atStart=>exact⟨0,l++ [91],a1,c1,by omega,rfl,rfl,by simp,nZ.out,by rw [ml.out];simp,vG,h1⟩
   case round=>
    clear LJ LK LL vG h1 nZ;obtain⟨k,acc,a0,c0,hk,rfl,rfl,rfl,hO,hacc,ag,hx⟩:=hrel;have hlen:=congrArg List.length hacc;rw [List.length_append] at hlen;have hBr:=Nat.le_trans hB hx.size;have HO:=ae hO;have fH:=ae hacc;clear hO hacc;obtain⟨hc0,aw,hl0⟩:=ag.see;by_cases hlt:k<x.l.length
    ·have hinr:x.In wr (fun b=>b<B) ka kc la lc:=aJ.out.keep (fun b hb _=>Below.block hx.below b hb) (fun _ h _=>h)
     obtain⟨b,o,rfl,hS,cF,cG,cH,cI,⟨d0,d1,d2,d3,d4⟩,bN⟩:=hinr.item hlt;have bE:=ae bN;have hsz:=V.qy hlt;have gf:=Hs.out.item (List.getElem_mem hlt);have aP:=ae (go_step false x hlt);rw [aP.out] at hlen;clear bN;go_upto_region 17 with fail
     refine aI (R:=fun wx=>aD wx w.heap.size x ka kc (some ⟨b,o,none⟩) lc/\aD wx wr.heap.size x.l[k] cF cG cH cI/\Ext wr wx) ⟨aj,aj,Xt⟩ ?_;clear ag hc0 aw hl0;rintro wi ⟨ag,Bj,fq⟩;obtain⟨hc0,aw,hl0⟩:=ag.see;obtain⟨D3,D4,Bk⟩:=Bj.see;have uq:Wrote B w wi:=hx.ext hB fq;have jr:=Nat.le_trans hB uq.size;have zx:=ae (dn.ext HO.out fq);have D5:=ae (V.In.ext bE.out fq);by_cases gS:k=0
     ·have hkb:decide ((0:Int)<(k:Int))=false:=by simp [gS]
      have hkn:¬0<k:=by omega
      simp only [if_pos gS,Bool.false_eq_true,if_false,List.length_append,List.length_cons,List.length_nil] at hlen;have qT:=ae gS;clear gS;go_wp2_with (first|(go_at_call 85;refine(Ih.out x.l[k] cF cG cH cI (.slice a0 acc.length c0) (acc) _ (by omega) (by omega) gf D5.out (by(try simp only [List.length_append,List.length_cons,List.length_nil]);omega) (su.on (Wrote.below uq)) (Nat.le_trans hB (Wrote.size uq)) zx.out).mono ?_;rintro e w9 ⟨v9,rfl,oh,h9⟩;have j5:Wrote B w w9:=Wrote.trans uq h9;have zy:=af.wrote h9 ag (by decide);obtain⟨a9,c9,rfl,-⟩:=oh.form;have zz:=ae oh;clear oh));go_roundg (x.l.length-(k+1))
      case measure=>omega
      case rel=>exact⟨k+1,acc++x.l[k].text,a9,c9,by omega,by go_num,rfl,by simp,zz.out,by rw [<-fH.out,aP.out,if_pos qT.out];simp,zy,j5⟩
     ·have hkb:decide ((0:Int)<(k:Int))=true:=by simp;omega
      have hkn:0<k:=by omega
      simp only [if_neg gS,Bool.false_eq_true,if_false,List.length_append,List.length_cons,List.length_nil] at hlen;have qT:=ae gS;clear gS;go_wp2_with (at_builtin;refine nH (by rfl) _ _ _ (by rfl) (by rfl) B (.slice a0 acc.length c0) acc (by rfl) (zx.out.ext Xt) ⟨wi.heap.size,0,none⟩ 1 1 [44] (by rfl) (by rfl) (World.news_of_block (cs:= #[.int .u8 44]) (t:=5) (fr:=(0,0)) (heap_alloc_new wi _)) (by omega) (by simp;omega) ?_;intro v3 w3 eH jK;have g3:Wrote B wi w3:=Wrote.grown ((Wrote.refl B wi).ext jr Xt) jr (zx.out.ext Xt) jK;have hw3:Wrote B w w3:=uq.trans g3;obtain⟨a3,c3,rfl,-⟩:=eH.form;have ql:=ae (show dn w3 B (.slice a3 (acc.length+1) c3) (acc++ [44]) by simpa using eH);have om:=af.wrote g3 ag (by decide);have GQ:=af.wrote g3 Bj (by decide);obtain⟨abI,abJ,abK⟩:=om.see;obtain⟨abL,abM,abN⟩:=GQ.see;have bg:=ae (Bi g3 D5.out);skip;clear eH jK);go_wp2_with (first|(go_at_call 85;refine(Ih.out x.l[k] cF cG cH cI (.slice a3 (acc.length+1) c3) (acc++ [44]) _ (by omega) (by omega) gf bg.out (by(try simp only [List.length_append,List.length_cons,List.length_nil]);omega) (su.on (Wrote.below hw3)) (Nat.le_trans hB (Wrote.size hw3)) ql.out).mono ?_;rintro e w9 ⟨v9,rfl,oh,h9⟩;have j5:Wrote B w w9:=Wrote.trans hw3 h9;have zy:=af.wrote h9 om (by decide);obtain⟨a9,c9,rfl,-⟩:=oh.form;have zz:=ae oh;clear oh));go_roundg (x.l.length-(k+1))
      case measure=>omega
      case rel=>exact⟨k+1,acc++ [44]++x.l[k].text,a9,c9,by omega,by go_num,rfl,by simp,zz.out,by rw [<-fH.out,aP.out,if_neg qT.out];simp,zy,j5⟩
    ·obtain rfl:k=x.l.length:=by omega
     go_wp2_with (at_builtin;refine nH (by rfl) _ _ _ (by rfl) (by rfl) B (.slice a0 acc.length c0) acc (by rfl) (HO.out.ext Xt) ⟨wr.heap.size,0,none⟩ 1 1 [93] (by rfl) (by rfl) (World.news_of_block (cs:= #[.int .u8 93]) (t:=5) (fr:=(0,0)) (heap_alloc_new wr _)) (by simp at hlen;omega) (by simp;omega) ?_;intro v2 w2 hown2 hgrow2;have h2:Wrote B w w2:=Wrote.grown (hx.ext hB Xt) hB (HO.out.ext Xt) hgrow2;have dK:=ae hown2;clear hown2 hgrow2);refine aF (h:= ?_);refine⟨_,rfl,?_,h2⟩;have e:=fH.out;rw [List.drop_eq_nil_of_le (Nat.le_refl _),KT,List.nil_append] at e;rw [<-e];exact dK.out
  ·have k5:x.k=5:=by omega
   have ml:=ae (abF k5);have D2:=LH;rw [ml.out] at D2;simp only [List.length_cons,List.length_append,List.length_nil] at D2;go_enter func85,ntmps85;go_wp2_with (at_builtin;refine nH (by rfl) _ _ _ (by rfl) (by rfl) B (.slice av l.length cv) l (by rfl) (cg.out.ext Xt) ⟨w.heap.size+1,0,none⟩ 1 1 [123] (by rfl) (by rfl) (by exact World.news_of_block (cs:= #[.int .u8 123]) (t:=5) (fr:=(0,0)) (by simpa using heap_alloc_new (w.alloc _) _)) (by omega) (by simp;omega) ?_;intro v1 w1 hown1 hgrow1;have h1:Wrote B w w1:=Wrote.grown ((Wrote.refl B w).ext hB Xt) hB (cg.out.ext Xt) hgrow1;have vG:aD w1 w.heap.size x ka kc la lc:=af.wrote (Wrote.grown (Wrote.refl B _) (by simp;omega) (cg.out.ext Xt) hgrow1) aj (by decide);obtain⟨a1,c1,rfl,-⟩:=hown1.form;have nZ:=ae hown1;clear hown1 hgrow1;obtain⟨LJ,LK,LL⟩:=vG.see)
   go_loopg [0,7,8,44] x.l.length (fun g t0 _ _ i wr=>∃(k:Nat) (acc:Bytes) (a0:au) (c0:Nat),k<=x.l.length/\i= .int .i64 k/\g=x.l.length-k/\t0= .slice a0 acc.length c0/\dn wr B (.slice a0 acc.length c0) acc/\acc++(V.text.go true (decide (k=0)) (x.keys.drop k) (x.l.drop k)++ [125])=l++x.text/\aD wr w.heap.size x ka kc la lc/\Wrote B w wr)
   case atStart=>exact⟨0,l++ [123],a1,c1,by omega,rfl,rfl,by simp,nZ.out,by rw [ml.out];simp,vG,h1⟩
   case round=>
    clear LJ LK LL vG h1 nZ;obtain⟨k,acc,a0,c0,hk,rfl,rfl,rfl,hO,hacc,ag,hx⟩:=hrel;have hlen:=congrArg List.length hacc;rw [List.length_append] at hlen;have hBr:=Nat.le_trans hB hx.size;have HO:=ae hO;have fH:=ae hacc;clear hO hacc;obtain⟨hc0,aw,hl0⟩:=ag.see;by_cases hlt:k<x.l.length
    ·have hinr:x.In wr (fun b=>b<B) ka kc la lc:=aJ.out.keep (fun b hb _=>Below.block hx.below b hb) (fun _ h _=>h)
     obtain⟨b,o,rfl,hS,cF,cG,cH,cI,⟨d0,d1,d2,d3,d4⟩,bN⟩:=hinr.item hlt;have bE:=ae bN;have hsz:=V.qy hlt;have gf:=Hs.out.item (List.getElem_mem hlt);have aP:=ae (go_step true x hlt);rw [aP.out] at hlen;clear bN;go_upto_region 17 with fail
     refine aI (R:=fun wx=>aD wx w.heap.size x ka kc (some ⟨b,o,none⟩) lc/\aD wx wr.heap.size x.l[k] cF cG cH cI/\Ext wr wx) ⟨aj,aj,Xt⟩ ?_;clear ag hc0 aw hl0;rintro wi ⟨ag,Bj,fq⟩;obtain⟨hc0,aw,hl0⟩:=ag.see;obtain⟨D3,D4,Bk⟩:=Bj.see;have uq:Wrote B w wi:=hx.ext hB fq;have jr:=Nat.le_trans hB uq.size;have zx:=ae (dn.ext HO.out fq);have D5:=ae (V.In.ext bE.out fq);have hlk:k<x.keys.length:=by rw [Hf.out.len k5];exact hlt
     obtain⟨b1,o1,rfl,hS1,d5⟩:=hinr.key hlk;have d5:=fq.cell d5;have hks:=(Q8 (Hf.out.kp _ (List.getElem_mem hlk))).2;rw [Array.length_toList] at hks;have ahe:x.keys[k].size<=60:=hks;have kY:(0:Int)<= (k:Int):=by omega
     have kZ:(k:Int)<(x.keys.length:Int):=by omega
     have LM:=ae (show (x.keys.drop k).headD ⟨#[]⟩=x.keys[k] by rw [List.drop_eq_getElem_cons hlk];rfl);rw [LM.out] at hlen;by_cases gS:k=0
     ·have hkb:decide ((0:Int)<(k:Int))=false:=by simp [gS]
      have hkn:¬0<k:=by omega
      simp only [if_pos gS,if_true,List.length_append,List.length_cons,List.length_nil] at hlen;have qT:=ae gS;clear gS
      go_wp2_with (first|(go_at_call 85;refine(Ih.out x.l[k] cF cG cH cI (.slice a5 (L4.length+1) c5) (L4++ [58]) _ (by omega) (by omega) gf gu.out (by(try simp only [List.length_append,List.length_cons,List.length_nil]);omega) (su.on (Wrote.below tU)) (Nat.le_trans hB (Wrote.size tU)) iP.out).mono ?_;rintro e w9 ⟨v9,rfl,oh,h9⟩;have j5:Wrote B w w9:=Wrote.trans tU h9;have zy:=af.wrote h9 nY (by decide);obtain⟨a9,c9,rfl,-⟩:=oh.form;have zz:=ae oh;clear oh)|(go_at_call 127;refine(LI B (.slice a0 acc.length c0) (acc) x.keys[k] _ (by omega) (by(try simp only [List.length_append,List.length_cons,List.length_nil]);omega) (Nat.le_trans hB (Wrote.size uq)) zx.out).mono ?_;rintro e w4 ⟨v4,rfl,lF,h4⟩;obtain⟨L4,hL4⟩:∃L4,L4=acc++nT x.keys[k].data.toList:=⟨_,rfl⟩;rw [<-hL4] at lF;have LN:=Nat.le_of_eq (congrArg List.length hL4);(simp only [List.length_append,List.length_cons,List.length_nil] at LN);have LO:=ae hL4;have hw4:Wrote B w w4:=Wrote.trans uq h4;have hB4:=Nat.le_trans hB hw4.size;have sy:=af.wrote h4 ag (by decide);have zA:=af.wrote h4 Bj (by decide);have dm:=ae (Bi h4 D5.out);obtain⟨a4,c4,rfl,-⟩:=lF.form;have D6:=ae lF;clear lF hL4;obtain⟨LP,LQ,LR⟩:=sy.see;obtain⟨LS,LU,LV⟩:=zA.see)
                                                                                                                                                                                                                                                                                                                                                                                                               |(at_builtin;refine nH (by rfl) _ _ _ (by rfl) (by rfl) B (.slice a4 L4.length c4) L4 (by rfl) (D6.out.ext Xt) ⟨w4.heap.size,0,none⟩ 1 1 [58] (by rfl) (by rfl) (World.news_of_block (cs:= #[.int .u8 58]) (t:=5) (fr:=(0,0)) (heap_alloc_new w4 _)) (by omega) (by simp;omega) ?_;intro v5 w5 dR cE;have g5:Wrote B w4 w5:=Wrote.grown ((Wrote.refl B w4).ext hB4 Xt) hB4 (D6.out.ext Xt) cE;have tU:Wrote B w w5:=hw4.trans g5;obtain⟨a5,c5,rfl,-⟩:=dR.form;have iP:=ae (show dn w5 B (.slice a5 (L4.length+1) c5) (L4++ [58]) by simpa using dR);have nY:=af.wrote g5 sy (by decide);have LW:=af.wrote g5 zA (by decide);obtain⟨abO,abP,abQ⟩:=nY.see;obtain⟨abR,abS,abT⟩:=LW.see;have gu:=ae (Bi g5 dm.out);clear dR cE LP LQ LS LU LR LV sy zA))
      go_roundg (x.l.length-(k+1))
      case measure=>omega
      case rel=>exact⟨k+1,L4++ [58]++x.l[k].text,a9,c9,by omega,by go_num,rfl,by simp,zz.out,by rw [<-fH.out,aP.out,if_pos qT.out,LO.out,LM.out];simp,zy,j5⟩
     ·have hkb:decide ((0:Int)<(k:Int))=true:=by simp;omega
      have hkn:0<k:=by omega
      simp only [if_neg gS,if_true,List.length_append,List.length_cons,List.length_nil] at hlen;have qT:=ae gS;clear gS;go_wp2_with (at_builtin;refine nH (by rfl) _ _ _ (by rfl) (by rfl) B (.slice a0 acc.length c0) acc (by rfl) (zx.out.ext Xt) ⟨wi.heap.size,0,none⟩ 1 1 [44] (by rfl) (by rfl) (World.news_of_block (cs:= #[.int .u8 44]) (t:=5) (fr:=(0,0)) (heap_alloc_new wi _)) (by omega) (by simp;omega) ?_;intro v3 w3 eH jK;have g3:Wrote B wi w3:=Wrote.grown ((Wrote.refl B wi).ext jr Xt) jr (zx.out.ext Xt) jK;have hw3:Wrote B w w3:=uq.trans g3;obtain⟨a3,c3,rfl,-⟩:=eH.form;have ql:=ae (show dn w3 B (.slice a3 (acc.length+1) c3) (acc++ [44]) by simpa using eH);have om:=af.wrote g3 ag (by decide);have GQ:=af.wrote g3 Bj (by decide);obtain⟨abI,abJ,abK⟩:=om.see;obtain⟨abL,abM,abN⟩:=GQ.see;have bg:=ae (Bi g3 D5.out);have d53:=(Below.cell (p:=⟨b1,o1+k,none⟩) g3.below hS1).trans d5;clear eH jK)
      go_wp2_with (first|(go_at_call 85;refine(Ih.out x.l[k] cF cG cH cI (.slice a5 (L4.length+1) c5) (L4++ [58]) _ (by omega) (by omega) gf gu.out (by(try simp only [List.length_append,List.length_cons,List.length_nil]);omega) (su.on (Wrote.below tU)) (Nat.le_trans hB (Wrote.size tU)) iP.out).mono ?_;rintro e w9 ⟨v9,rfl,oh,h9⟩;have j5:Wrote B w w9:=Wrote.trans tU h9;have zy:=af.wrote h9 nY (by decide);obtain⟨a9,c9,rfl,-⟩:=oh.form;have zz:=ae oh;clear oh)|(go_at_call 127;refine(LI B (.slice a3 (acc.length+1) c3) (acc++ [44]) x.keys[k] _ (by omega) (by(try simp only [List.length_append,List.length_cons,List.length_nil]);omega) (Nat.le_trans hB (Wrote.size hw3)) ql.out).mono ?_;rintro e w4 ⟨v4,rfl,lF,h4⟩;obtain⟨L4,hL4⟩:∃L4,L4=acc++ [44]++nT x.keys[k].data.toList:=⟨_,rfl⟩;rw [<-hL4] at lF;have LN:=Nat.le_of_eq (congrArg List.length hL4);(simp only [List.length_append,List.length_cons,List.length_nil] at LN);have LO:=ae hL4;have hw4:Wrote B w w4:=Wrote.trans hw3 h4;have hB4:=Nat.le_trans hB hw4.size;have sy:=af.wrote h4 om (by decide);have zA:=af.wrote h4 GQ (by decide);have dm:=ae (Bi h4 bg.out);obtain⟨a4,c4,rfl,-⟩:=lF.form;have D6:=ae lF;clear lF hL4;obtain⟨LP,LQ,LR⟩:=sy.see;obtain⟨LS,LU,LV⟩:=zA.see)
                                                                                                                                                                                                                                                                                                                                                                                                               |(at_builtin;refine nH (by rfl) _ _ _ (by rfl) (by rfl) B (.slice a4 L4.length c4) L4 (by rfl) (D6.out.ext Xt) ⟨w4.heap.size,0,none⟩ 1 1 [58] (by rfl) (by rfl) (World.news_of_block (cs:= #[.int .u8 58]) (t:=5) (fr:=(0,0)) (heap_alloc_new w4 _)) (by omega) (by simp;omega) ?_;intro v5 w5 dR cE;have g5:Wrote B w4 w5:=Wrote.grown ((Wrote.refl B w4).ext hB4 Xt) hB4 (D6.out.ext Xt) cE;have tU:Wrote B w w5:=hw4.trans g5;obtain⟨a5,c5,rfl,-⟩:=dR.form;have iP:=ae (show dn w5 B (.slice a5 (L4.length+1) c5) (L4++ [58]) by simpa using dR);have nY:=af.wrote g5 sy (by decide);have LW:=af.wrote g5 zA (by decide);obtain⟨abO,abP,abQ⟩:=nY.see;obtain⟨abR,abS,abT⟩:=LW.see;have gu:=ae (Bi g5 dm.out);clear dR cE LP LQ LS LU LR LV sy zA))
      go_roundg (x.l.length-(k+1))
      case measure=>omega
      case rel=>exact⟨k+1,L4++ [58]++x.l[k].text,a9,c9,by omega,by go_num,rfl,by simp,zz.out,by rw [<-fH.out,aP.out,if_neg qT.out,LO.out,LM.out];simp,zy,j5⟩
    ·obtain rfl:k=x.l.length:=by omega
     go_wp2_with (at_builtin;refine nH (by rfl) _ _ _ (by rfl) (by rfl) B (.slice a0 acc.length c0) acc (by rfl) (HO.out.ext Xt) ⟨wr.heap.size,0,none⟩ 1 1 [125] (by rfl) (by rfl) (World.news_of_block (cs:= #[.int .u8 125]) (t:=5) (fr:=(0,0)) (heap_alloc_new wr _)) (by simp at hlen;omega) (by simp;omega) ?_;intro v2 w2 hown2 hgrow2;have h2:Wrote B w w2:=Wrote.grown (hx.ext hB Xt) hB (HO.out.ext Xt) hgrow2;have dK:=ae hown2;clear hown2 hgrow2);refine aF (h:= ?_);refine⟨_,rfl,?_,h2⟩;have e:=fH.out;rw [List.drop_eq_nil_of_le (Nat.le_refl _),KT,List.nil_append] at e;rw [<-e];exact dK.out
theorem SL (s:Bytes):(nT s).length<=6*s.length+2:=by
 unfold nT;have:(s.flatMap nS).length<=6*s.length:=by
  induction s with
  |nil=>simp
  |cons c t ih=>rw [List.flatMap_cons,List.length_append,List.length_cons];have:=abU c;omega
 simp only [List.length_cons,List.length_append,List.length_nil];omega
theorem abV (k:ah) (ks:List ah):ft (k::ks)=k.size+1+ft ks:=by simp [ft];try omega
theorem abW (x:V):x.sound->x.text.length+10<=30*x.size:=by
 induction x using V.ind with
 |h x ih=>
  intro hs;have hf:=hs.flat;have hgo:∀(o first:Bool) (r:List V) (ks:List ah),(∀y∈r,y∈x.l)-> (V.text.go o first ks r).length<=6*ft ks+30*(r.map V.size).sum:=by
   intro o first r
   induction r generalizing first with
   |nil=>intro ks _;rw [KT];simp
   |cons y r ihr=>
    intro ks hr;rw [Q9];have h1:=ih y (hr y (by simp)) (hs.item (hr y (by simp)));have h2:=ihr false ks.tail (fun z hz=>hr z (by simp [hz]));have h3:(if first=true then([]:Bytes) else [44]).length<=1:=by cases first<;>simp
    cases ks with
    |nil=>
     have h4:(if o=true then nT (([]:List ah).headD ⟨#[]⟩).data.toList++ [58] else []).length<=3:=by cases o<;>decide
     simp only [List.length_append,List.map_cons,List.sum_cons,List.tail_nil] at*;omega
    |cons k ks=>
     have h4:(if o=true then nT ((k::ks).headD ⟨#[]⟩).data.toList++ [58] else []).length<=6*k.size+3:=by
      cases o
      ·simp
      ·have h5:=SL k.data.toList
       have e:k.data.toList.length=k.size:=Array.length_toList;rw [e] at h5;simp only [if_true,List.headD_cons,List.length_append,List.length_cons,List.length_nil];omega
     rw [abV];simp only [List.length_append,List.map_cons,List.sum_cons,List.tail_cons] at*;omega
  have ha:=hgo true true x.l x.keys (fun y h=>h);have hb:=hgo false true x.l x.keys (fun y h=>h);have hi:=ZZ hf.KE hf.KF;have hq:=SL x.s.data.toList;have e:x.s.data.toList.length=x.s.size:=Array.length_toList;rw [e] at hq;rw [zg,V.size_eq]
  repeat' split
  all_goals (try simp only [List.length_cons,List.length_append,List.length_nil])
  all_goals omega
theorem abX (x:V) (ka:au) (kc:Nat) (la:au) (lc:Nat) (S:az) (w:World) (hsz:x.size<=1073741824) (kU:x.In w S ka kc la lc) (hl:cM w):
 Calls prog 56 #[x.val ka kc la lc] w fun e w'=>e= .returned (.tuple #[.string ⟨(lv x).1.toArray⟩, .int .i64 (lv x).2])/\Ext w w':=by
 have aJ:=ae (show x.In w (fun b=>b<w.heap.size) ka kc la lc from kU.mono fun b _ h=>h);clear kU;by_cases hf:x.fine=true
 ·have cN:=gq hf
  have hfs:=oV hf;have htl:=abW x cN;go_enter func56,ntmps56;go_wp2_with fail;(refine(cT x ka kc la lc _ _ (by omega) (aJ.out.ext Xt)).mono ?_);rintro e w1 ⟨rfl,h1⟩;rw [hf];have hx1:Ext w w1:=Xt;have hB:aD w1 w.heap.size x ka kc la lc:=af.ext h1 aj;clear h1;obtain⟨hc0,aw,hl0⟩:=hB.see;have su:=Lib.tabBelow_of_tabIs (hl.ext hx1).tab;go_wp2_with fail;(refine(abH w1.heap.size x.size x ka kc la lc (.slice none 0 0) [] _ (Nat.le_refl _) (by omega) cN ((aJ.out.ext hx1).mono (fun b _ h=>h)) (by simp only [List.length_nil];omega) su (Nat.le_refl _) (dn.nil _ _)).mono ?_);rintro e w2 ⟨v2,rfl,hown2,h2⟩;rw [List.nil_append] at hown2;have hcv:=SJ hown2;obtain⟨a2,c2,rfl,-⟩:=hown2.form;have hx2:Ext w w2:=hx1.trans h2.below;clear hown2 h2;by_cases hlo:2000<x.text.length
  ·have hp:lv x=([],2):=by unfold lv;rw [if_neg (by rw [hf];decide),if_pos hlo]
   go_wp2_with fail;refine aF (h:= ?_);rw [hp];exact⟨rfl,hx2⟩
  ·have hp:lv x=(x.text,0):=by unfold lv;rw [if_neg (by rw [hf];decide),if_neg hlo]
   go_wp2_with fail;refine aF (h:= ?_);rw [hp];exact⟨rfl,hx2⟩
 ·have hf':x.fine=false:=by simpa using hf
  have hp:lv x=([],1):=by unfold lv;rw [if_pos hf']
  go_enter func56,ntmps56;go_wp2_with fail;(refine(cT x ka kc la lc _ _ (by omega) (aJ.out.ext Xt)).mono ?_);rintro e w1 ⟨rfl,h1⟩;rw [hf'];go_wp2_with fail;refine aF (h:= ?_);rw [hp];exact⟨rfl,Xt⟩
def Tb (r:Nat) (t:Bytes) (w:World) (e:Ending) (w':World):Prop:=
 Rd r w w'/\∃(b s':ah) (gB:Bool),e= .returned (.string b)/\b.size<=61/\Sr w' r s' gB/\ ((gB=false/\gN (t.length+1) t []=some (b.data.toList,s'.data.toList))\/ (gB=true/\s'.data.toList= []/\gN (t.length+1) t []=none))
theorem Rd.grown {r:Nat} {a b c:World} (h:Rd r a b) {row:Option Nat} (g:b.grownBy c row) (hr:∀k,row=some k->a.heap.size<=k) (qW:r<a.heap.size):Rd r a c:=by
 refine⟨Below.grown h.below g (by have:=h.size;omega) (fun k hk=>by have:=hr k hk;omega),⟨Nat.le_trans h.size g.size,fun k hk hl=> ?_⟩⟩;rw [g.block k (Nat.lt_of_lt_of_le hl h.size) (fun e=>by have:=hr k e.symm;omega)];exact h.held.block k hk hl
theorem dn.rd {r B:Nat} {w w':World} {v:Value} {l:Bytes} (e:Rd r w w') (hB:r<B) (h:dn w B v l):dn w' B v l:=
 dX h (fun b hb hg=>e.held.block b (by have:=(h.lt b hg).1;omega) hb)
def Bx (R:Option (Bytes×Bytes)) (s:ah) (bad:Bool) (bs:Bytes):Prop:=
 (bad=true->s.data.toList= [])/\ ((bad=false/\gN (s.size+1) s.data.toList bs=R)\/ (bad=true/\R=none))
theorem acp {R:Option (Bytes×Bytes)} {s:ah} {bs:Bytes} (h:Bx R s false bs) (hb:(gA s.data.toList).toNat<32\/127<= (gA s.data.toList).toNat\/60<bs.length):R=none:=by
 rcases h.2 with⟨-,h⟩|⟨h,-⟩
 ·rw [<-h]
  cases hq:s.data.toList with
  |nil=>rfl
  |cons c t=>
   rw [hq] at hb;have hb:c.toNat<32\/127<=c.toNat\/60<bs.length:=hb;rw [gN,if_pos hb]
 ·cases h
theorem acr {R:Option (Bytes×Bytes)} {s u:ah} {bs:Bytes} (h:Bx R s false bs) {c:UInt8} (hc:s.data.toList=c::u.data.toList) (hb:¬(c.toNat<32\/127<=c.toNat\/60<bs.length)):
 R=if c=34 then some (bs,u.data.toList) else if c=92 then(ki u.data.toList).bind fun p=>gN s.size p.2 (bs++ [p.1]) else gN s.size u.data.toList (bs++ [c]):=by
 rcases h.2 with⟨-,h⟩|⟨h,-⟩
 ·rw [<-h,hc,gN,if_neg hb]
 ·cases h
theorem acs {s u:ah} {c:UInt8} (hc:s.data.toList=c::u.data.toList):s.size=u.size+1:=by
 have h1:s.data.toList.length=s.size:=Array.length_toList;have h2:u.data.toList.length=u.size:=Array.length_toList;rw [hc,List.length_cons,h2] at h1;exact h1.symm
theorem Tc (r:Nat) (s:ah) (t:Bytes) (hs:s.data.toList=34::t) (hsz:s.size<=1048576) (w:World) (hr:Sr w r s false):
 Calls prog 73 #[.pointer (some ⟨r,0,none⟩)] w (Tb r t w):=by
 have hlt:=hr.lt;obtain⟨R,hR⟩:∃R,gN (t.length+1) t []=R:=⟨_,rfl⟩;unfold Tb;rw [hR];have Hs:=ae hs;have HR:=ae hR;clear hs hR;go_enter func73,ntmps73;go_wp2_with fail;(refine(xC r s false ⟨#[34]⟩ _ hr).mono ?_);rintro e w1 ⟨rfl,h1,(⟨hp,s1,hs1,hr1⟩|⟨hp,hr1⟩)⟩
 rotate_left
 ·rw [Hs.out] at hp;simp [List.isPrefixOf] at hp
 have hst:s1.data.toList=t:=by rw [hs1,Hs.out];rfl
 have ay:t.length=s1.size:=by rw [<-hst];exact Array.length_toList
 have hl0:s.size=t.length+1:=by have:s.data.toList.length=s.size:=Array.length_toList;rw [Hs.out] at this;exact this.symm
 have hti:Bx R s1 false []:=⟨(fun h=>by cases h), .inl ⟨rfl,by rw [hst,<-ay,HR.out]⟩⟩;have qX:=ae hti;have qY:s1.size<=1048576:=by omega
 have hown0:=ae (dn.nil w1 w.heap.size);clear hp hs1 hst hti hl0 ay;go_wp2_with fail
 go_loopg [3,4] s1.size (fun g t3 _ wr=>∃(s2:ah) (bad:Bool) (bs:Bytes) (a0:au) (c0:Nat),t3= .slice a0 bs.length c0/\Sr wr r s2 bad/\dn wr w.heap.size (.slice a0 bs.length c0) bs/\bs.length<=61/\g=s2.size/\s2.size<=1048576/\Rd r w wr/\Bx R s2 bad bs)
 case atStart=>exact⟨s1,false, [],none,0,rfl,hr1,hown0.out,by simp,rfl,qY,h1,qX.out⟩
 case round=>
  clear hr1 h1 qX qY hown0 hr;obtain⟨s2,bad,bs,a0,c0,rfl,hr2,hown,hbl,rfl,rF,hx,hti⟩:=hrel;have cg:=ae hown;have qX:=ae hti;have G6:=ae (show∀g,(Value.slice a0 bs.length c0).ownBlock=some g->w.heap.size<=g from fun g hg=>(hown.lt g hg).1);have Td:=ae (show some r≠(Value.slice a0 bs.length c0).ownBlock from fun h=>by have:=G6.out r h.symm;omega);have hxs:=hx.size;clear hown hti;have hcr:=hr2.cells;have vI:=hr2.free;have hlr:=hr2.lt
  cases bad with
  |true=>
   have bw:=ae (show R=none from by rcases qX.out.2 with⟨h,-⟩|⟨-,h⟩;cases h;exact h);have acu:=ae (qX.out.1 rfl);go_wp2_with fail;refine aF (h:= ?_);rw [bw.out];exact⟨hx,⟨#[]⟩,s2,true,rfl,by decide,hr2, .inr ⟨rfl,acu.out,rfl⟩⟩
  |false=>
   obtain⟨c,hc⟩:∃c,gA s2.data.toList=c:=⟨_,rfl⟩;have Hc:=ae hc;clear hc;by_cases hbad:(c.toNat:Int)<32\/127<= (c.toNat:Int)\/60<(bs.length:Int)
   ·have bw:=ae (acp qX.out (by rw [Hc.out];omega))
    by_cases q1:(c.toNat:Int)<32
    ·have Bz:decide ((c.toNat:Int)<32)=true:=by simpa using q1
     clear hbad;go_wp2_with fail;(refine(lX r s2 false _ hr2).mono ?_);rintro e w3 ⟨rfl,rfl⟩;rw [Hc.out];go_wp2_with fail;(refine(dE r s2 false _ hr2).mono ?_);rintro e w4 ⟨rfl,hr4,h4⟩;have h5:=hx.trans h4;go_wp2_with fail;refine aF (h:= ?_);rw [bw.out];exact⟨h5,⟨#[]⟩,⟨#[]⟩,true,rfl,by decide,hr4, .inr ⟨rfl,rfl,rfl⟩⟩
    ·have Bz:decide ((c.toNat:Int)<32)=false:=by simpa using q1
     by_cases q2:127<= (c.toNat:Int)
     ·have Te:decide (127<= (c.toNat:Int))=true:=by simpa using q2
      clear hbad;go_wp2_with fail;(refine(lX r s2 false _ hr2).mono ?_);rintro e w3 ⟨rfl,rfl⟩;rw [Hc.out];go_wp2_with fail;(refine(dE r s2 false _ hr2).mono ?_);rintro e w4 ⟨rfl,hr4,h4⟩;have h5:=hx.trans h4;go_wp2_with fail;refine aF (h:= ?_);rw [bw.out];exact⟨h5,⟨#[]⟩,⟨#[]⟩,true,rfl,by decide,hr4, .inr ⟨rfl,rfl,rfl⟩⟩
     ·have Te:decide (127<= (c.toNat:Int))=false:=by simpa using q2
      have q3:60<bs.length:=by omega
      have q3i:(60:Int)<(bs.length:Int):=by omega
      clear hbad;go_wp2_with fail;(refine(lX r s2 false _ hr2).mono ?_);rintro e w3 ⟨rfl,rfl⟩;rw [Hc.out];go_wp2_with fail;(refine(dE r s2 false _ hr2).mono ?_);rintro e w4 ⟨rfl,hr4,h4⟩;have h5:=hx.trans h4;go_wp2_with fail;refine aF (h:= ?_);rw [bw.out];exact⟨h5,⟨#[]⟩,⟨#[]⟩,true,rfl,by decide,hr4, .inr ⟨rfl,rfl,rfl⟩⟩
   ·have q1:¬(c.toNat:Int)<32:=by omega
    have q2:¬127<= (c.toNat:Int):=by omega
    have q3:¬60<bs.length:=by omega
    have q3i:¬(60:Int)<(bs.length:Int):=by omega
    have Bz:decide ((c.toNat:Int)<32)=false:=by simpa using q1
    have Te:decide (127<= (c.toNat:Int))=false:=by simpa using q2
    have hne:s2.data.toList≠ []:=fun h=>by have:=Hc.out;rw [h] at this;rw [<-this] at q1;exact q1 (by decide)
    have Tf:s2.data.toList.length=s2.size:=Array.length_toList;have hpos:1<=s2.size:=by rw [<-Tf];exact List.length_pos_iff.2 hne
    have acg:(1:Int)<= (s2.size:Int):=by omega
    obtain⟨u,hu⟩:∃u,s2.extract 1 s2.size=u:=⟨_,rfl⟩;have Bw:u.data.toList=s2.data.toList.drop 1:=by rw [<-hu];exact sB s2 1
    have qV:s2.data.toList=c::u.data.toList:=by
     rw [Bw];have:=Hc.out
     cases hq:s2.data.toList with
     |nil=>exact absurd hq hne
     |cons d t=>rw [hq] at this;simp only [gA,List.headD_cons] at this;rw [this];rfl
    have Ea:=ae (acs qV);have aP:=ae (acr qX.out qV (by omega));clear hbad hne Tf Bw qV;have hR:Rd r w (wr.setCell ⟨r,0,none⟩ (.string u)):=hx.set _ _;have pD:Sr (wr.setCell ⟨r,0,none⟩ (.string u)) r u false:=aj;have Tg:dn (wr.setCell ⟨r,0,none⟩ (.string u)) w.heap.size (.slice a0 bs.length c0) bs:=dn.rd ((Rd.refl r wr).set _ _) hlt cg.out;have Mj:=ae Tg;clear Tg;by_cases Mk:(c.toNat:Int)=34
    ·have lW:c=34:=by apply UInt8.toNat_inj.1;simpa using (by omega:c.toNat=34)
     have lB:=ae (show R=some (bs,u.data.toList) by have:=aP.out;rw [if_pos lW] at this;exact this);have hcv:=SJ Mj.out;have acv:((c.toNat:Int)==34)=true:=by simpa using Mk
     clear lW aP;go_wp2_with fail;(refine(lX r s2 false _ hr2).mono ?_);rintro e w3 ⟨rfl,rfl⟩;rw [Hc.out];go_wp2_with fail;refine aF (h:= ?_);rw [lB.out];exact⟨hR,⟨bs.toArray⟩,u,false,rfl,by simpa [ByteArray.size] using hbl,pD, .inl ⟨rfl,by simp⟩⟩
    ·have lW:c≠34:=fun h=>Mk (by rw [h];rfl)
     have acv:((c.toNat:Int)==34)=false:=by simpa using Mk
     have Me:u.size<=1048576:=by have:=Ea.out;omega
     go_wp2_with fail;(refine(lX r s2 false _ hr2).mono ?_);rintro e w3 ⟨rfl,rfl⟩;rw [Hc.out];go_upto_region 9 with fail
     refine aI (R:=fun wx=>Sr wx r u false/\dn wx w.heap.size (.slice a0 bs.length c0) bs/\Rd r w wx) ⟨pD,Mj.out,hR⟩ ?_;clear pD Mj hR hx cg hr2 hcr vI hlr hxs;rintro wz ⟨lG,Ti,bL⟩;have Tj:=ae Ti;have cX:=bL.size;clear Ti;by_cases Eb:(c.toNat:Int)=92
     ·have sA:c=92:=by apply UInt8.toNat_inj.1;simpa using (by omega:c.toNat=92)
      have acw:((c.toNat:Int)==92)=true:=by simpa using Eb
      have pz:=ae (show R=(ki u.data.toList).bind fun p=>gN s2.size p.2 (bs++ [p.1]) by have:=aP.out;rw [if_neg lW,if_pos sA] at this;exact this);have H92:=ae Eb;clear sA lW aP Eb;go_wp2_with fail;(refine(ace r u Me _ lG).mono ?_);rintro e w5 ⟨h5,m,u2,Ml,rfl,qZ,cV⟩;have aZ:=bL.trans h5;have iP:=ae (dn.rd h5 hlt Tj.out);have Mm:u2.data.toList.length=u2.size:=Array.length_toList;have acx:u.data.toList.length=u.size:=Array.length_toList;have htx:u2.size<s2.size/\Bx R u2 Ml (bs++ [m]):=by
       rcases cV with⟨rfl,he⟩|⟨rfl,h0,he⟩
       ·have h1:=F9 he
        simp only at h1;have h2:=Ea.out;refine⟨by omega,(fun h=>by cases h), .inl ⟨rfl,?_⟩⟩;rw [pz.out,he];exact KU _ _ _ _ (by omega) (by omega)
       ·have h2:=Ea.out
        rw [h0] at Mm;refine⟨by simp at Mm;omega,fun _=>h0, .inr ⟨rfl,?_⟩⟩;rw [pz.out,he];rfl
      obtain⟨dt,htx⟩:=htx;have ml:=ae htx;clear cV htx Mm acx lG bL;go_wp2_with (at_builtin;refine nH (by rfl) _ _ _ (by rfl) (by rfl) w.heap.size (.slice a0 bs.length c0) bs (by rfl) (iP.out.ext Xt) ⟨(w5).heap.size,0,none⟩ 1 1 [m] (by rfl) (by rfl) (World.news_of_block (cs:= #[.int .u8 (m).toNat]) (t:=5) (fr:=(0,0)) (heap_alloc_new w5 _)) (by omega) (by have:=Rd.size aZ;simp;omega) ?_;intro v7 w7 zD zE;have jx:Sr w7 r u2 Ml:=af.grown (af.alloc qZ _) zE Td.out;have cW:Rd r w w7:=Rd.grown (Rd.ext aZ hlt Xt) zE (fun g hg=>(G6.out g hg)) hlt;obtain⟨a7,c7,rfl,-⟩:=zD.form;have Mn:=ae zD;clear zD zE);go_roundg u2.size
      case measure=>exact dt
      case rel=>exact⟨u2,Ml,bs++ [m],a7,c7,by simp,jx,Mn.out,by simp;omega,rfl,by omega,cW,ml.out⟩
     ·have sA:c≠92:=fun h=>Eb (by rw [h];rfl)
      have acw:((c.toNat:Int)==92)=false:=by simpa using Eb
      have htx:Bx R u false (bs++ [c]):=by have h1:=aP.out;rw [if_neg lW,if_neg sA] at h1;exact⟨(fun h=>by cases h), .inl ⟨rfl,by rw [h1,Ea.out]⟩⟩
      have ml:=ae htx;clear htx lW sA;go_wp2_with (at_builtin;refine nH (by rfl) _ _ _ (by rfl) (by rfl) w.heap.size (.slice a0 bs.length c0) bs (by rfl) (Tj.out.ext Xt) ⟨(wz).heap.size,0,none⟩ 1 1 [c] (by rfl) (by rfl) (World.news_of_block (cs:= #[.int .u8 (c).toNat]) (t:=5) (fr:=(0,0)) (heap_alloc_new wz _)) (by omega) (by have:=Rd.size bL;simp;omega) ?_;intro v7 w7 zD zE;have jx:Sr w7 r u false:=af.grown (af.alloc lG _) zE Td.out;have cW:Rd r w w7:=Rd.grown (Rd.ext bL hlt Xt) zE (fun g hg=>(G6.out g hg)) hlt;obtain⟨a7,c7,rfl,-⟩:=zD.form;have Mn:=ae zD;clear zD zE);go_roundg u.size
      case measure=>have:=Ea.out;omega
      case rel=>exact⟨u,false,bs++ [c],a7,c7,by simp,jx,Mn.out,by simp;omega,rfl,Me,cW,ml.out⟩
end Go.Proofs.YtlcebdaghmdkeabGreatDoor
