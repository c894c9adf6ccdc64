import Derived.Lib.BufferRead
import Derived.Test.YtlcebdaghmdkeabGreatDoorM5
import Derived.Test.YtlcebdaghmdkeabGreatDoorM22
set_option linter.all false
set_option maxRecDepth 100000
set_option maxHeartbeats 64000000
namespace Go.Proofs.YtlcebdaghmdkeabGreatDoor
open Go.Proofs.Tryz
open Go.RowKit
attribute [local go_sem↓] Go.wp_at_zero Go.wp_at_succ
theorem QS {w:World} {B:Nat} {v:Value} {l:Bytes} (h:cW w B v l):(convert 133 9 v).run prog w= .ok (.string ⟨l.toArray⟩) w:=by
 rcases h.2 with⟨rfl,hn⟩|⟨g,cap,cur,rfl,-,hg,-,-,-,ht⟩
 ·obtain rfl:=List.length_eq_zero_iff.1 hn
  exact Lib.run_convert_nil_bytes w _ _ 5 0 (by kernel_rfl) (by kernel_rfl) (by kernel_rfl)
 ·exact run_convert_bytes_back w _ _ 5 _ cap l (by kernel_rfl) (by kernel_rfl) (by kernel_rfl) (Lib.bytes_of_row hg (by rw [Nat.mul_one] at ht;exact ht))
def yA (b:Bool):Bytes:=if b then [116,114,117,101] else [102,97,108,115,101]
theorem aas (B:Nat) (v:Value) (l:Bytes) (b:Bool) (w:World) (hn:l.length<=1099511627776) (hB:B<=w.heap.size) (hown:cW w B v l):
 Calls prog 176 #[v, .bool b] w fun e w'=>∃v',e= .returned v'/\cW w' B v' (l++yA b)/\Wrote B w w':=by
 obtain⟨av,cv,rfl,-⟩:=hown.form;have bW:=ae hown;clear hown
 cases b with
 |true=>
  go_enter func176,ntmps176;go_wp2_with (at_builtin;refine sw (by rfl) _ _ _ _ (by rfl) (by rfl) (by rfl) B (.slice av l.length cv) l (by rfl) (bW.out.ext Xt) ⟨#[116,114,117,101]⟩ (by rfl) (by simp [ByteArray.size];omega) (by first|omega|(simp;omega)) ?_;intro v2 w2 hown2 hgrow2;have h2:Wrote B w w2:=Wrote.grown ((Wrote.refl B w).ext hB Xt) hB (bW.out.ext Xt) hgrow2;have dC:=ae hown2;clear hown2 hgrow2);refine aF (h:= ?_);exact⟨_,rfl,by simpa [yA] using dC.out,h2⟩
 |false=>
  go_enter func176,ntmps176;go_wp2_with (at_builtin;refine sw (by rfl) _ _ _ _ (by rfl) (by rfl) (by rfl) B (.slice av l.length cv) l (by rfl) (bW.out.ext Xt) ⟨#[102,97,108,115,101]⟩ (by rfl) (by simp [ByteArray.size];omega) (by first|omega|(simp;omega)) ?_;intro v2 w2 hown2 hgrow2;have h2:Wrote B w w2:=Wrote.grown ((Wrote.refl B w).ext hB Xt) hB (bW.out.ext Xt) hgrow2;have dC:=ae hown2;clear hown2 hgrow2);refine aF (h:= ?_);exact⟨_,rfl,by simpa [yA] using dC.out,h2⟩
theorem aat (B:Nat) (v:Value) (l:Bytes) (b:Bool) (w:World) (hn:l.length<=1099511627776) (hB:B<=w.heap.size) (hown:cW w B v l):
 Calls prog 125 #[v, .bool b] w fun e w'=>∃v',e= .returned v'/\cW w' B v' (l++yA b)/\Wrote B w w':=by
 obtain⟨av,cv,rfl,-⟩:=hown.form;have bW:=ae hown;clear hown;go_enter func125,ntmps125;go_wp2_with fail;(refine(aas B _ l b _ hn (by omega) (bW.out.ext Xt)).mono ?_);rintro e w1 ⟨v1,rfl,hown1,h1⟩;obtain⟨a1,c1,rfl,-⟩:=hown1.form;have nI:=ae hown1;clear hown1;go_wp2_with fail;refine aF (h:= ?_);exact⟨_,rfl,by simpa using nI.out,h1⟩
theorem Ah {B:Nat} {w w':World} (h:Wrote B w w') {x:V} {ka:aq} {kc:Nat} {la:aq} {lc:Nat} (hin:x.In w (fun b=>b<B) ka kc la lc):x.In w' (fun b=>b<B) ka kc la lc:=
 hin.keep (fun b hb _=>Below.block h.below b hb) (fun _ h _=>h)
theorem go_step (o:Bool) (x:V) {k:Nat} (h:k<x.l.length):V.text.go o (decide (k=0)) (x.keys.drop k) (x.l.drop k)=(if k=0 then [] else [44])++((if o then nB ((x.keys.drop k).headD ⟨#[]⟩).data.toList++ [58] else [])++(x.l[k].text++V.text.go o (decide (k+1=0)) (x.keys.drop (k+1)) (x.l.drop (k+1)))):=by
 rw [List.drop_eq_getElem_cons h,Ps,List.tail_drop];simp
theorem aau {x:V} (h:x.k=5):x.text=123::(V.text.go true true x.keys x.l++ [125]):=by rw [yi,h];simp
theorem aav {x:V} (h:x.k=4):x.text=91::(V.text.go false true x.keys x.l++ [93]):=by rw [yi,h];simp
theorem aaw (B:Nat) (m:Nat):∀(x:V) (ka:aq) (kc:Nat) (la:aq) (lc:Nat) (v:Value) (l:Bytes) (w:World),x.size<=m->x.size<=1048576->x.sound->x.In w (fun b=>b<B) ka kc la lc->l.length+x.text.length<=1099511627776->
 Lib.TabBelow prog B w "internal/strconv.uint64pow10" .u64 Lib.pow10Tab->B<=w.heap.size->cW w B v l->
 Calls prog 85 #[v,x.val ka kc la lc] w fun e w'=>∃v',e= .returned v'/\cW w' B v' (l++x.text)/\Wrote B w w':=by
 induction m with
 |zero=>intro x _ _ _ _ _ _ _ h;have:=x.size_pos;omega
 |succ m ih=>
  intro x ka kc la lc v l w hm hsz hs hin Kp rz hB hown;obtain⟨av,cv,rfl,-⟩:=hown.form;have hf:=hs.flat;have Hf:=ae hf;have Hs:=ae hs;have aH:=ae hin;have bW:=ae hown;have Ih:=ae ih;have gM:=hf.k0;have mU:=hf.k5;have afR:=hf.Ju;have afS:=hf.Jv;have hl:=x.jO;clear hs hin hown ih hf;by_cases k0:x.k=0
  ·have lM:=ae (show x.text= [110,117,108,108] by rw [yi,k0];rfl)
   rw [lM.out] at Kp⊢;go_enter func85,ntmps85;go_wp2_with (at_builtin;refine sw (by rfl) _ _ _ _ (by rfl) (by rfl) (by rfl) B (.slice av l.length cv) l (by rfl) (bW.out.ext Xt) ⟨#[110,117,108,108]⟩ (by rfl) (by simp [ByteArray.size];omega) (by first|omega|(simp;omega)) ?_;intro v2 w2 hown2 hgrow2;have h2:Wrote B w w2:=Wrote.grown ((Wrote.refl B w).ext hB Xt) hB (bW.out.ext Xt) hgrow2;have dC:=ae hown2;clear hown2 hgrow2);refine aF (h:= ?_);exact⟨_,rfl,by simpa [yA] using dC.out,h2⟩
  by_cases k1:x.k=1
  ·have lM:=ae (show x.text=yA (x.n==1) by rw [yi,k1];unfold yA;simp)
   rw [lM.out];go_enter func85,ntmps85;go_wp2_with fail;(refine(aat B _ l _ _ (by omega) (by simp;omega) (bW.out.ext Xt)).mono ?_);rintro e w1 ⟨v1,rfl,hown1,h1⟩;obtain⟨a1,c1,rfl,-⟩:=hown1.form;have nI:=ae hown1;clear hown1;have h2:Wrote B w w1:=((Wrote.refl B w).ext hB Xt).trans h1;go_wp2_with fail;refine aF (h:= ?_);exact⟨_,rfl,by simpa using nI.out,h2⟩
  by_cases k2:x.k=2
  ·have lM:=ae (show x.text=Lib.itoa x.n by rw [yi,k2];rfl)
   rw [lM.out];go_enter func85,ntmps85;go_wp2_with fail;(refine(Tryz.strconv_AppendInt_10 B l.length x.n (by omega) (by omega) _ (Lib.byteCells l) _ (bW.out.ext Xt) (by simp;omega) (by omega) (rz.on (Wrote.below ((Wrote.refl B w).ext hB Xt)))).mono ?_);rintro e w1 ⟨v1,rfl,hown1,hb1,rA⟩;have hown1:cW w1 B v1 (l++Lib.itoa x.n):=by unfold cW;rw [List.length_append,Lib.byteCells_append];exact hown1
   obtain⟨a1,c1,rfl,-⟩:=hown1.form;have nI:=ae hown1;clear hown1;have h2:Wrote B w w1:=((Wrote.refl B w).ext hB Xt).trans ⟨hb1,rA⟩;go_wp2_with fail;refine aF (h:= ?_);exact⟨_,rfl,by simpa using nI.out,h2⟩
  by_cases k3:x.k=3
  ·have lM:=ae (show x.text=nB x.s.data.toList by rw [yi,k3];rfl)
   have QT:=(Pr Hf.out.sp).2;rw [Array.length_toList] at QT;have afT:x.s.size<=60:=QT;rw [lM.out];go_enter func85,ntmps85;go_wp2_with fail;(refine(Kq B _ l x.s _ (by omega) (by omega) (by simp;omega) (bW.out.ext Xt)).mono ?_);rintro e w1 ⟨v1,rfl,hown1,h1⟩;obtain⟨a1,c1,rfl,-⟩:=hown1.form;have nI:=ae hown1;clear hown1;have h2:Wrote B w w1:=((Wrote.refl B w).ext hB Xt).trans h1;go_wp2_with fail;refine aF (h:= ?_);exact⟨_,rfl,by simpa using nI.out,h2⟩
  by_cases k4:x.k=4
  ·have lM:=ae (aav k4)
   have CO:=Kp;rw [lM.out] at CO;simp only [List.length_cons,List.length_append,List.length_nil] at CO;go_enter func85,ntmps85;go_wp2_with (at_builtin;refine mV (by rfl) _ _ _ (by rfl) (by rfl) B (.slice av l.length cv) l (by rfl) (bW.out.ext Xt) ⟨w.heap.size+1,0,none⟩ 1 1 [91] (by rfl) (by rfl) (by exact World.news_of_block (cs:= #[.int .u8 91]) (t:=5) (fr:=(0,0)) (by simpa using heap_alloc_new (w.alloc _) _)) (by omega) (by simp;omega) ?_;intro v1 w1 hown1 hgrow1;have h1:Wrote B w w1:=Wrote.grown ((Wrote.refl B w).ext hB Xt) hB (bW.out.ext Xt) hgrow1;have yB:aC w1 w.heap.size x ka kc la lc:=af.wrote (Wrote.grown (Wrote.refl B _) (by simp;omega) (bW.out.ext Xt) hgrow1) aj (by decide);obtain⟨a1,c1,rfl,-⟩:=hown1.form;have nI:=ae hown1;clear hown1 hgrow1;obtain⟨Kr,Ks,Kt⟩:=yB.see)
   go_loopg [0,7,8,44] x.l.length (fun g t0 _ _ i wr=>∃(k:Nat) (acc:Bytes) (a0:aq) (c0:Nat),k<=x.l.length/\i= .int .i64 k/\g=x.l.length-k/\t0= .slice a0 acc.length c0/\cW wr B (.slice a0 acc.length c0) acc/\acc++(V.text.go false (decide (k=0)) (x.keys.drop k) (x.l.drop k)++ [93])=l++x.text/\aC wr w.heap.size x ka kc la lc/\Wrote B w wr)
   case atStart=>exact⟨0,l++ [91],a1,c1,by omega,rfl,rfl,by simp,nI.out,by rw [lM.out];simp,yB,h1⟩
   case round=>
    clear Kr Ks Kt yB h1 nI;obtain⟨k,acc,a0,c0,hk,rfl,rfl,rfl,hO,hacc,ag,hx⟩:=hrel;have hlen:=congrArg List.length hacc;rw [List.length_append] at hlen;have hBr:=Nat.le_trans hB hx.size;have HO:=ae hO;have fh:=ae hacc;clear hO hacc;obtain⟨hc0,ax,hl0⟩:=ag.see;by_cases hlt:k<x.l.length
    ·have hinr:x.In wr (fun b=>b<B) ka kc la lc:=aH.out.keep (fun b hb _=>Below.block hx.below b hb) (fun _ h _=>h)
     obtain⟨b,o,rfl,hS,cp,ct,cu,cw,⟨d0,d1,d2,d3,d4⟩,bR⟩:=hinr.item hlt;have cn:=ae bR;have hsz:=V.oZ hlt;have fS:=Hs.out.item (List.getElem_mem hlt);have aP:=ae (go_step false x hlt);rw [aP.out] at hlen;clear bR;go_upto_region 17 with fail
     refine aI (R:=fun wx=>aC wx w.heap.size x ka kc (some ⟨b,o,none⟩) lc/\aC wx wr.heap.size x.l[k] cp ct cu cw/\Ext wr wx) ⟨aj,aj,Xt⟩ ?_;clear ag hc0 ax hl0;rintro wi ⟨ag,Ai,jb⟩;obtain⟨hc0,ax,hl0⟩:=ag.see;obtain⟨hc8,hf8,FI⟩:=Ai.see;have tu:Wrote B w wi:=hx.ext hB jb;have ja:=Nat.le_trans hB tu.size;have yC:=ae (cW.ext HO.out jb);have CP:=ae (V.In.ext cn.out jb);by_cases gM:k=0
     ·have hkb:decide ((0:Int)<(k:Int))=false:=by simp [gM]
      have hkn:¬0<k:=by omega
      simp only [if_pos gM,Bool.false_eq_true,if_false,List.length_append,List.length_cons,List.length_nil] at hlen;have p5:=ae gM;clear gM;go_wp2_with (first|(go_at_call 85;refine(Ih.out x.l[k] cp ct cu cw (.slice a0 acc.length c0) (acc) _ (by omega) (by omega) fS CP.out (by(try simp only [List.length_append,List.length_cons,List.length_nil]);omega) (rz.on (Wrote.below tu)) (Nat.le_trans hB (Wrote.size tu)) yC.out).mono ?_;rintro e w9 ⟨v9,rfl,nJ,h9⟩;have kO:Wrote B w w9:=Wrote.trans tu h9;have yD:=af.wrote h9 ag (by decide);obtain⟨a9,c9,rfl,-⟩:=nJ.form;have yE:=ae nJ;clear nJ));go_roundg (x.l.length-(k+1))
      case measure=>omega
      case rel=>exact⟨k+1,acc++x.l[k].text,a9,c9,by omega,by go_num,rfl,by simp,yE.out,by rw [<-fh.out,aP.out,if_pos p5.out];simp,yD,kO⟩
     ·have hkb:decide ((0:Int)<(k:Int))=true:=by simp;omega
      have hkn:0<k:=by omega
      simp only [if_neg gM,Bool.false_eq_true,if_false,List.length_append,List.length_cons,List.length_nil] at hlen;have p5:=ae gM;clear gM;go_wp2_with (at_builtin;refine mV (by rfl) _ _ _ (by rfl) (by rfl) B (.slice a0 acc.length c0) acc (by rfl) (yC.out.ext Xt) ⟨wi.heap.size,0,none⟩ 1 1 [44] (by rfl) (by rfl) (World.news_of_block (cs:= #[.int .u8 44]) (t:=5) (fr:=(0,0)) (heap_alloc_new wi _)) (by omega) (by simp;omega) ?_;intro v3 w3 eo jC;have g3:Wrote B wi w3:=Wrote.grown ((Wrote.refl B wi).ext ja Xt) ja (yC.out.ext Xt) jC;have hw3:Wrote B w w3:=tu.trans g3;obtain⟨a3,c3,rfl,-⟩:=eo.form;have pC:=ae (show cW w3 B (.slice a3 (acc.length+1) c3) (acc++ [44]) by simpa using eo);have nK:=af.wrote g3 ag (by decide);have FJ:=af.wrote g3 Ai (by decide);obtain⟨aax,aay,aaz⟩:=nK.see;obtain⟨aaA,aaB,aaC⟩:=FJ.see;have bJ:=ae (Ah g3 CP.out);skip;clear eo jC);go_wp2_with (first|(go_at_call 85;refine(Ih.out x.l[k] cp ct cu cw (.slice a3 (acc.length+1) c3) (acc++ [44]) _ (by omega) (by omega) fS bJ.out (by(try simp only [List.length_append,List.length_cons,List.length_nil]);omega) (rz.on (Wrote.below hw3)) (Nat.le_trans hB (Wrote.size hw3)) pC.out).mono ?_;rintro e w9 ⟨v9,rfl,nJ,h9⟩;have kO:Wrote B w w9:=Wrote.trans hw3 h9;have yD:=af.wrote h9 nK (by decide);obtain⟨a9,c9,rfl,-⟩:=nJ.form;have yE:=ae nJ;clear nJ));go_roundg (x.l.length-(k+1))
      case measure=>omega
      case rel=>exact⟨k+1,acc++ [44]++x.l[k].text,a9,c9,by omega,by go_num,rfl,by simp,yE.out,by rw [<-fh.out,aP.out,if_neg p5.out];simp,yD,kO⟩
    ·obtain rfl:k=x.l.length:=by omega
     go_wp2_with (at_builtin;refine mV (by rfl) _ _ _ (by rfl) (by rfl) B (.slice a0 acc.length c0) acc (by rfl) (HO.out.ext Xt) ⟨wr.heap.size,0,none⟩ 1 1 [93] (by rfl) (by rfl) (World.news_of_block (cs:= #[.int .u8 93]) (t:=5) (fr:=(0,0)) (heap_alloc_new wr _)) (by simp at hlen;omega) (by simp;omega) ?_;intro v2 w2 hown2 hgrow2;have h2:Wrote B w w2:=Wrote.grown (hx.ext hB Xt) hB (HO.out.ext Xt) hgrow2;have dC:=ae hown2;clear hown2 hgrow2);refine aF (h:= ?_);refine⟨_,rfl,?_,h2⟩;have e:=fh.out;rw [List.drop_eq_nil_of_le (Nat.le_refl _),JH,List.nil_append] at e;rw [<-e];exact dC.out
  ·have k5:x.k=5:=by omega
   have lM:=ae (aau k5);have CO:=Kp;rw [lM.out] at CO;simp only [List.length_cons,List.length_append,List.length_nil] at CO;go_enter func85,ntmps85;go_wp2_with (at_builtin;refine mV (by rfl) _ _ _ (by rfl) (by rfl) B (.slice av l.length cv) l (by rfl) (bW.out.ext Xt) ⟨w.heap.size+1,0,none⟩ 1 1 [123] (by rfl) (by rfl) (by exact World.news_of_block (cs:= #[.int .u8 123]) (t:=5) (fr:=(0,0)) (by simpa using heap_alloc_new (w.alloc _) _)) (by omega) (by simp;omega) ?_;intro v1 w1 hown1 hgrow1;have h1:Wrote B w w1:=Wrote.grown ((Wrote.refl B w).ext hB Xt) hB (bW.out.ext Xt) hgrow1;have yB:aC w1 w.heap.size x ka kc la lc:=af.wrote (Wrote.grown (Wrote.refl B _) (by simp;omega) (bW.out.ext Xt) hgrow1) aj (by decide);obtain⟨a1,c1,rfl,-⟩:=hown1.form;have nI:=ae hown1;clear hown1 hgrow1;obtain⟨Kr,Ks,Kt⟩:=yB.see)
   go_loopg [0,7,8,44] x.l.length (fun g t0 _ _ i wr=>∃(k:Nat) (acc:Bytes) (a0:aq) (c0:Nat),k<=x.l.length/\i= .int .i64 k/\g=x.l.length-k/\t0= .slice a0 acc.length c0/\cW wr B (.slice a0 acc.length c0) acc/\acc++(V.text.go true (decide (k=0)) (x.keys.drop k) (x.l.drop k)++ [125])=l++x.text/\aC wr w.heap.size x ka kc la lc/\Wrote B w wr)
   case atStart=>exact⟨0,l++ [123],a1,c1,by omega,rfl,rfl,by simp,nI.out,by rw [lM.out];simp,yB,h1⟩
   case round=>
    clear Kr Ks Kt yB h1 nI;obtain⟨k,acc,a0,c0,hk,rfl,rfl,rfl,hO,hacc,ag,hx⟩:=hrel;have hlen:=congrArg List.length hacc;rw [List.length_append] at hlen;have hBr:=Nat.le_trans hB hx.size;have HO:=ae hO;have fh:=ae hacc;clear hO hacc;obtain⟨hc0,ax,hl0⟩:=ag.see;by_cases hlt:k<x.l.length
    ·have hinr:x.In wr (fun b=>b<B) ka kc la lc:=aH.out.keep (fun b hb _=>Below.block hx.below b hb) (fun _ h _=>h)
     obtain⟨b,o,rfl,hS,cp,ct,cu,cw,⟨d0,d1,d2,d3,d4⟩,bR⟩:=hinr.item hlt;have cn:=ae bR;have hsz:=V.oZ hlt;have fS:=Hs.out.item (List.getElem_mem hlt);have aP:=ae (go_step true x hlt);rw [aP.out] at hlen;clear bR;go_upto_region 17 with fail
     refine aI (R:=fun wx=>aC wx w.heap.size x ka kc (some ⟨b,o,none⟩) lc/\aC wx wr.heap.size x.l[k] cp ct cu cw/\Ext wr wx) ⟨aj,aj,Xt⟩ ?_;clear ag hc0 ax hl0;rintro wi ⟨ag,Ai,jb⟩;obtain⟨hc0,ax,hl0⟩:=ag.see;obtain⟨hc8,hf8,FI⟩:=Ai.see;have tu:Wrote B w wi:=hx.ext hB jb;have ja:=Nat.le_trans hB tu.size;have yC:=ae (cW.ext HO.out jb);have CP:=ae (V.In.ext cn.out jb);have hlk:k<x.keys.length:=by rw [Hf.out.len k5];exact hlt
     obtain⟨b1,o1,rfl,hS1,d5⟩:=hinr.key hlk;have d5:=jb.cell d5;have hks:=(Pr (Hf.out.kp _ (List.getElem_mem hlk))).2;rw [Array.length_toList] at hks;have afU:x.keys[k].size<=60:=hks;have nj:(0:Int)<= (k:Int):=by omega
     have np:(k:Int)<(x.keys.length:Int):=by omega
     have Ku:=ae (show (x.keys.drop k).headD ⟨#[]⟩=x.keys[k] by rw [List.drop_eq_getElem_cons hlk];rfl);rw [Ku.out] at hlen;by_cases gM:k=0
     ·have hkb:decide ((0:Int)<(k:Int))=false:=by simp [gM]
      have hkn:¬0<k:=by omega
      simp only [if_pos gM,if_true,List.length_append,List.length_cons,List.length_nil] at hlen;have p5:=ae gM;clear gM
      go_wp2_with (first|(go_at_call 85;refine(Ih.out x.l[k] cp ct cu cw (.slice a5 (L4.length+1) c5) (L4++ [58]) _ (by omega) (by omega) fS iY.out (by(try simp only [List.length_append,List.length_cons,List.length_nil]);omega) (rz.on (Wrote.below sH)) (Nat.le_trans hB (Wrote.size sH)) iE.out).mono ?_;rintro e w9 ⟨v9,rfl,nJ,h9⟩;have kO:Wrote B w w9:=Wrote.trans sH h9;have yD:=af.wrote h9 nH (by decide);obtain⟨a9,c9,rfl,-⟩:=nJ.form;have yE:=ae nJ;clear nJ)|(go_at_call 127;refine(Kq B (.slice a0 acc.length c0) (acc) x.keys[k] _ (by omega) (by(try simp only [List.length_append,List.length_cons,List.length_nil]);omega) (Nat.le_trans hB (Wrote.size tu)) yC.out).mono ?_;rintro e w4 ⟨v4,rfl,kW,h4⟩;obtain⟨L4,hL4⟩:∃L4,L4=acc++nB x.keys[k].data.toList:=⟨_,rfl⟩;rw [<-hL4] at kW;have Kv:=Nat.le_of_eq (congrArg List.length hL4);(simp only [List.length_append,List.length_cons,List.length_nil] at Kv);have Kw:=ae hL4;have hw4:Wrote B w w4:=Wrote.trans tu h4;have hB4:=Nat.le_trans hB hw4.size;have rB:=af.wrote h4 ag (by decide);have yF:=af.wrote h4 Ai (by decide);have eP:=ae (Ah h4 CP.out);obtain⟨a4,c4,rfl,-⟩:=kW.form;have CQ:=ae kW;clear kW hL4;obtain⟨Ky,Kz,KA⟩:=rB.see;obtain⟨KB,KC,KD⟩:=yF.see)
                                                                                                                                                                                                                                                                                                                                                                                                               |(at_builtin;refine mV (by rfl) _ _ _ (by rfl) (by rfl) B (.slice a4 L4.length c4) L4 (by rfl) (CQ.out.ext Xt) ⟨w4.heap.size,0,none⟩ 1 1 [58] (by rfl) (by rfl) (World.news_of_block (cs:= #[.int .u8 58]) (t:=5) (fr:=(0,0)) (heap_alloc_new w4 _)) (by omega) (by simp;omega) ?_;intro v5 w5 dM cz;have g5:Wrote B w4 w5:=Wrote.grown ((Wrote.refl B w4).ext hB4 Xt) hB4 (CQ.out.ext Xt) cz;have sH:Wrote B w w5:=hw4.trans g5;obtain⟨a5,c5,rfl,-⟩:=dM.form;have iE:=ae (show cW w5 B (.slice a5 (L4.length+1) c5) (L4++ [58]) by simpa using dM);have nH:=af.wrote g5 rB (by decide);have KE:=af.wrote g5 yF (by decide);obtain⟨aaD,aaE,aaF⟩:=nH.see;obtain⟨aaG,aaH,aaI⟩:=KE.see;have iY:=ae (Ah g5 eP.out);clear dM cz Ky Kz KB KC KA KD rB yF))
      go_roundg (x.l.length-(k+1))
      case measure=>omega
      case rel=>exact⟨k+1,L4++ [58]++x.l[k].text,a9,c9,by omega,by go_num,rfl,by simp,yE.out,by rw [<-fh.out,aP.out,if_pos p5.out,Kw.out,Ku.out];simp,yD,kO⟩
     ·have hkb:decide ((0:Int)<(k:Int))=true:=by simp;omega
      have hkn:0<k:=by omega
      simp only [if_neg gM,if_true,List.length_append,List.length_cons,List.length_nil] at hlen;have p5:=ae gM;clear gM;go_wp2_with (at_builtin;refine mV (by rfl) _ _ _ (by rfl) (by rfl) B (.slice a0 acc.length c0) acc (by rfl) (yC.out.ext Xt) ⟨wi.heap.size,0,none⟩ 1 1 [44] (by rfl) (by rfl) (World.news_of_block (cs:= #[.int .u8 44]) (t:=5) (fr:=(0,0)) (heap_alloc_new wi _)) (by omega) (by simp;omega) ?_;intro v3 w3 eo jC;have g3:Wrote B wi w3:=Wrote.grown ((Wrote.refl B wi).ext ja Xt) ja (yC.out.ext Xt) jC;have hw3:Wrote B w w3:=tu.trans g3;obtain⟨a3,c3,rfl,-⟩:=eo.form;have pC:=ae (show cW w3 B (.slice a3 (acc.length+1) c3) (acc++ [44]) by simpa using eo);have nK:=af.wrote g3 ag (by decide);have FJ:=af.wrote g3 Ai (by decide);obtain⟨aax,aay,aaz⟩:=nK.see;obtain⟨aaA,aaB,aaC⟩:=FJ.see;have bJ:=ae (Ah g3 CP.out);have d53:=(Below.cell (p:=⟨b1,o1+k,none⟩) g3.below hS1).trans d5;clear eo jC)
      go_wp2_with (first|(go_at_call 85;refine(Ih.out x.l[k] cp ct cu cw (.slice a5 (L4.length+1) c5) (L4++ [58]) _ (by omega) (by omega) fS iY.out (by(try simp only [List.length_append,List.length_cons,List.length_nil]);omega) (rz.on (Wrote.below sH)) (Nat.le_trans hB (Wrote.size sH)) iE.out).mono ?_;rintro e w9 ⟨v9,rfl,nJ,h9⟩;have kO:Wrote B w w9:=Wrote.trans sH h9;have yD:=af.wrote h9 nH (by decide);obtain⟨a9,c9,rfl,-⟩:=nJ.form;have yE:=ae nJ;clear nJ)|(go_at_call 127;refine(Kq B (.slice a3 (acc.length+1) c3) (acc++ [44]) x.keys[k] _ (by omega) (by(try simp only [List.length_append,List.length_cons,List.length_nil]);omega) (Nat.le_trans hB (Wrote.size hw3)) pC.out).mono ?_;rintro e w4 ⟨v4,rfl,kW,h4⟩;obtain⟨L4,hL4⟩:∃L4,L4=acc++ [44]++nB x.keys[k].data.toList:=⟨_,rfl⟩;rw [<-hL4] at kW;have Kv:=Nat.le_of_eq (congrArg List.length hL4);(simp only [List.length_append,List.length_cons,List.length_nil] at Kv);have Kw:=ae hL4;have hw4:Wrote B w w4:=Wrote.trans hw3 h4;have hB4:=Nat.le_trans hB hw4.size;have rB:=af.wrote h4 nK (by decide);have yF:=af.wrote h4 FJ (by decide);have eP:=ae (Ah h4 bJ.out);obtain⟨a4,c4,rfl,-⟩:=kW.form;have CQ:=ae kW;clear kW hL4;obtain⟨Ky,Kz,KA⟩:=rB.see;obtain⟨KB,KC,KD⟩:=yF.see)
                                                                                                                                                                                                                                                                                                                                                                                                               |(at_builtin;refine mV (by rfl) _ _ _ (by rfl) (by rfl) B (.slice a4 L4.length c4) L4 (by rfl) (CQ.out.ext Xt) ⟨w4.heap.size,0,none⟩ 1 1 [58] (by rfl) (by rfl) (World.news_of_block (cs:= #[.int .u8 58]) (t:=5) (fr:=(0,0)) (heap_alloc_new w4 _)) (by omega) (by simp;omega) ?_;intro v5 w5 dM cz;have g5:Wrote B w4 w5:=Wrote.grown ((Wrote.refl B w4).ext hB4 Xt) hB4 (CQ.out.ext Xt) cz;have sH:Wrote B w w5:=hw4.trans g5;obtain⟨a5,c5,rfl,-⟩:=dM.form;have iE:=ae (show cW w5 B (.slice a5 (L4.length+1) c5) (L4++ [58]) by simpa using dM);have nH:=af.wrote g5 rB (by decide);have KE:=af.wrote g5 yF (by decide);obtain⟨aaD,aaE,aaF⟩:=nH.see;obtain⟨aaG,aaH,aaI⟩:=KE.see;have iY:=ae (Ah g5 eP.out);clear dM cz Ky Kz KB KC KA KD rB yF))
      go_roundg (x.l.length-(k+1))
      case measure=>omega
      case rel=>exact⟨k+1,L4++ [58]++x.l[k].text,a9,c9,by omega,by go_num,rfl,by simp,yE.out,by rw [<-fh.out,aP.out,if_neg p5.out,Kw.out,Ku.out];simp,yD,kO⟩
    ·obtain rfl:k=x.l.length:=by omega
     go_wp2_with (at_builtin;refine mV (by rfl) _ _ _ (by rfl) (by rfl) B (.slice a0 acc.length c0) acc (by rfl) (HO.out.ext Xt) ⟨wr.heap.size,0,none⟩ 1 1 [125] (by rfl) (by rfl) (World.news_of_block (cs:= #[.int .u8 125]) (t:=5) (fr:=(0,0)) (heap_alloc_new wr _)) (by simp at hlen;omega) (by simp;omega) ?_;intro v2 w2 hown2 hgrow2;have h2:Wrote B w w2:=Wrote.grown (hx.ext hB Xt) hB (HO.out.ext Xt) hgrow2;have dC:=ae hown2;clear hown2 hgrow2);refine aF (h:= ?_);refine⟨_,rfl,?_,h2⟩;have e:=fh.out;rw [List.drop_eq_nil_of_le (Nat.le_refl _),JH,List.nil_append] at e;rw [<-e];exact dC.out
theorem QU (s:Bytes):(nB s).length<=6*s.length+2:=by
 unfold nB;have:(s.flatMap nA).length<=6*s.length:=by
  induction s with
  |nil=>simp
  |cons c t ih=>rw [List.flatMap_cons,List.length_append,List.length_cons];have:=aaJ c;omega
 simp only [List.length_cons,List.length_append,List.length_nil];omega
theorem aaK (k:ah) (ks:List ah):eY (k::ks)=k.size+1+eY ks:=by simp [eY];try omega
theorem aaL (x:V):x.sound->x.text.length+10<=30*x.size:=by
 induction x using V.ind with
 |h x ih=>
  intro hs;have hf:=hs.flat;have hgo:∀(o first:Bool) (r:List V) (ks:List ah),(∀y∈r,y∈x.l)-> (V.text.go o first ks r).length<=6*eY ks+30*(r.map V.size).sum:=by
   intro o first r
   induction r generalizing first with
   |nil=>intro ks _;rw [JH];simp
   |cons y r ihr=>
    intro ks hr;rw [Ps];have h1:=ih y (hr y (by simp)) (hs.item (hr y (by simp)));have h2:=ihr false ks.tail (fun z hz=>hr z (by simp [hz]));have h3:(if first=true then([]:Bytes) else [44]).length<=1:=by cases first<;>simp
    cases ks with
    |nil=>
     have h4:(if o=true then nB (([]:List ah).headD ⟨#[]⟩).data.toList++ [58] else []).length<=3:=by cases o<;>decide
     simp only [List.length_append,List.map_cons,List.sum_cons,List.tail_nil] at*;omega
    |cons k ks=>
     have h4:(if o=true then nB ((k::ks).headD ⟨#[]⟩).data.toList++ [58] else []).length<=6*k.size+3:=by
      cases o
      ·simp
      ·have h5:=QU k.data.toList
       have e:k.data.toList.length=k.size:=Array.length_toList;rw [e] at h5;simp only [if_true,List.headD_cons,List.length_append,List.length_cons,List.length_nil];omega
     rw [aaK];simp only [List.length_append,List.map_cons,List.sum_cons,List.tail_cons] at*;omega
  have ha:=hgo true true x.l x.keys (fun y h=>h);have hb:=hgo false true x.l x.keys (fun y h=>h);have hi:=YF hf.Ju hf.Jv;have hq:=QU x.s.data.toList;have e:x.s.data.toList.length=x.s.size:=Array.length_toList;rw [e] at hq;rw [yi,V.size_eq]
  repeat' split
  all_goals (try simp only [List.length_cons,List.length_append,List.length_nil])
  all_goals omega
theorem aaM (x:V) (ka:aq) (kc:Nat) (la:aq) (lc:Nat) (S:aw) (w:World) (hsz:x.size<=1073741824) (pK:x.In w S ka kc la lc) (hl:cS w):
 Calls prog 56 #[x.val ka kc la lc] w fun e w'=>e= .returned (.tuple #[.string ⟨(kS x).1.toArray⟩, .int .i64 (kS x).2])/\Ext w w':=by
 have aH:=ae (show x.In w (fun b=>b<w.heap.size) ka kc la lc from pK.mono fun b _ h=>h);clear pK;by_cases hf:x.fine=true
 ·have cK:=gG hf
  have hfs:=pL hf;have htl:=aaL x cK;go_enter func56,ntmps56;go_wp2_with fail;(refine(cU x ka kc la lc _ _ (by omega) (aH.out.ext Xt)).mono ?_);rintro e w1 ⟨rfl,h1⟩;rw [hf];have hx1:Ext w w1:=Xt;have hB:aC w1 w.heap.size x ka kc la lc:=af.ext h1 aj;clear h1;obtain⟨hc0,ax,hl0⟩:=hB.see;have rz:=Lib.tabBelow_of_tabIs (hl.ext hx1).tab;go_wp2_with fail;(refine(aaw w1.heap.size x.size x ka kc la lc (.slice none 0 0) [] _ (Nat.le_refl _) (by omega) cK ((aH.out.ext hx1).mono (fun b _ h=>h)) (by simp only [List.length_nil];omega) rz (Nat.le_refl _) (cW.nil _ _)).mono ?_);rintro e w2 ⟨v2,rfl,hown2,h2⟩;rw [List.nil_append] at hown2;have hcv:=QS hown2;obtain⟨a2,c2,rfl,-⟩:=hown2.form;have hx2:Ext w w2:=hx1.trans h2.below;clear hown2 h2;by_cases hlo:2000<x.text.length
  ·have hp:kS x=([],2):=by unfold kS;rw [if_neg (by rw [hf];decide),if_pos hlo]
   go_wp2_with fail;refine aF (h:= ?_);rw [hp];exact⟨rfl,hx2⟩
  ·have hp:kS x=(x.text,0):=by unfold kS;rw [if_neg (by rw [hf];decide),if_neg hlo]
   go_wp2_with fail;refine aF (h:= ?_);rw [hp];exact⟨rfl,hx2⟩
 ·have hf':x.fine=false:=by simpa using hf
  have hp:kS x=([],1):=by unfold kS;rw [if_pos hf']
  go_enter func56,ntmps56;go_wp2_with fail;(refine(cU x ka kc la lc _ _ (by omega) (aH.out.ext Xt)).mono ?_);rintro e w1 ⟨rfl,h1⟩;rw [hf'];go_wp2_with fail;refine aF (h:= ?_);rw [hp];exact⟨rfl,Xt⟩
def Rj (r:Nat) (t:Bytes) (w:World) (e:Ending) (w':World):Prop:=
 Rd r w w'/\∃(b s':ah) (gb:Bool),e= .returned (.string b)/\b.size<=61/\Sr w' r s' gb/\ ((gb=false/\gw (t.length+1) t []=some (b.data.toList,s'.data.toList))\/ (gb=true/\s'.data.toList= []/\gw (t.length+1) t []=none))
theorem Rd.grown {r:Nat} {a b c:World} (h:Rd r a b) {row:Option Nat} (g:b.grownBy c row) (hr:∀k,row=some k->a.heap.size<=k) (p8:r<a.heap.size):Rd r a c:=by
 refine⟨Below.grown h.below g (by have:=h.size;omega) (fun k hk=>by have:=hr k hk;omega),⟨Nat.le_trans h.size g.size,fun k hk hl=> ?_⟩⟩;rw [g.block k (Nat.lt_of_lt_of_le hl h.size) (fun e=>by have:=hr k e.symm;omega)];exact h.held.block k hk hl
theorem cW.rd {r B:Nat} {w w':World} {v:Value} {l:Bytes} (e:Rd r w w') (hB:r<B) (h:cW w B v l):cW w' B v l:=
 dL h (fun b hb hg=>e.held.block b (by have:=(h.lt b hg).1;omega) hb)
def Ax (R:Option (Bytes×Bytes)) (s:ah) (bad:Bool) (bs:Bytes):Prop:=
 (bad=true->s.data.toList= [])/\ ((bad=false/\gw (s.size+1) s.data.toList bs=R)\/ (bad=true/\R=none))
theorem abe {R:Option (Bytes×Bytes)} {s:ah} {bs:Bytes} (h:Ax R s false bs) (hb:(fZ s.data.toList).toNat<32\/127<= (fZ s.data.toList).toNat\/60<bs.length):R=none:=by
 rcases h.2 with⟨-,h⟩|⟨h,-⟩
 ·rw [<-h]
  cases hq:s.data.toList with
  |nil=>rfl
  |cons c t=>
   rw [hq] at hb;have hb:c.toNat<32\/127<=c.toNat\/60<bs.length:=hb;rw [gw,if_pos hb]
 ·cases h
theorem abf {R:Option (Bytes×Bytes)} {s u:ah} {bs:Bytes} (h:Ax R s false bs) {c:UInt8} (hc:s.data.toList=c::u.data.toList) (hb:¬(c.toNat<32\/127<=c.toNat\/60<bs.length)):
 R=if c=34 then some (bs,u.data.toList) else if c=92 then(jY u.data.toList).bind fun p=>gw s.size p.2 (bs++ [p.1]) else gw s.size u.data.toList (bs++ [c]):=by
 rcases h.2 with⟨-,h⟩|⟨h,-⟩
 ·rw [<-h,hc,gw,if_neg hb]
 ·cases h
theorem abg {s u:ah} {c:UInt8} (hc:s.data.toList=c::u.data.toList):s.size=u.size+1:=by
 have h1:s.data.toList.length=s.size:=Array.length_toList;have h2:u.data.toList.length=u.size:=Array.length_toList;rw [hc,List.length_cons,h2] at h1;exact h1.symm
theorem Rk (r:Nat) (s:ah) (t:Bytes) (hs:s.data.toList=34::t) (hsz:s.size<=1048576) (w:World) (hr:Sr w r s false):
 Calls prog 73 #[.pointer (some ⟨r,0,none⟩)] w (Rj r t w):=by
 have hlt:=hr.lt;obtain⟨R,hR⟩:∃R,gw (t.length+1) t []=R:=⟨_,rfl⟩;unfold Rj;rw [hR];have Hs:=ae hs;have HR:=ae hR;clear hs hR;go_enter func73,ntmps73;go_wp2_with fail;(refine(wA r s false ⟨#[34]⟩ _ hr).mono ?_);rintro e w1 ⟨rfl,h1,(⟨hp,s1,hs1,hr1⟩|⟨hp,hr1⟩)⟩
 rotate_left
 ·rw [Hs.out] at hp;simp [List.isPrefixOf] at hp
 have hst:s1.data.toList=t:=by rw [hs1,Hs.out];rfl
 have ay:t.length=s1.size:=by rw [<-hst];exact Array.length_toList
 have hl0:s.size=t.length+1:=by have:s.data.toList.length=s.size:=Array.length_toList;rw [Hs.out] at this;exact this.symm
 have hti:Ax R s1 false []:=⟨(fun h=>by cases h), .inl ⟨rfl,by rw [hst,<-ay,HR.out]⟩⟩;have oM:=ae hti;have p9:s1.size<=1048576:=by omega
 have hown0:=ae (cW.nil w1 w.heap.size);clear hp hs1 hst hti hl0 ay;go_wp2_with fail
 go_loopg [3,4] s1.size (fun g t3 _ wr=>∃(s2:ah) (bad:Bool) (bs:Bytes) (a0:aq) (c0:Nat),t3= .slice a0 bs.length c0/\Sr wr r s2 bad/\cW wr w.heap.size (.slice a0 bs.length c0) bs/\bs.length<=61/\g=s2.size/\s2.size<=1048576/\Rd r w wr/\Ax R s2 bad bs)
 case atStart=>exact⟨s1,false, [],none,0,rfl,hr1,hown0.out,by simp,rfl,p9,h1,oM.out⟩
 case round=>
  clear hr1 h1 oM p9 hown0 hr;obtain⟨s2,bad,bs,a0,c0,rfl,hr2,hown,hbl,rfl,qA,hx,hti⟩:=hrel;have bW:=ae hown;have oM:=ae hti;have FU:=ae (show∀g,(Value.slice a0 bs.length c0).ownBlock=some g->w.heap.size<=g from fun g hg=>(hown.lt g hg).1);have Rl:=ae (show some r≠(Value.slice a0 bs.length c0).ownBlock from fun h=>by have:=FU.out r h.symm;omega);have hxs:=hx.size;clear hown hti;have hcr:=hr2.cells;have uA:=hr2.free;have hlr:=hr2.lt
  cases bad with
  |true=>
   have bj:=ae (show R=none from by rcases oM.out.2 with⟨h,-⟩|⟨-,h⟩;cases h;exact h);have abh:=ae (oM.out.1 rfl);go_wp2_with fail;refine aF (h:= ?_);rw [bj.out];exact⟨hx,⟨#[]⟩,s2,true,rfl,by decide,hr2, .inr ⟨rfl,abh.out,rfl⟩⟩
  |false=>
   obtain⟨c,hc⟩:∃c,fZ s2.data.toList=c:=⟨_,rfl⟩;have Hc:=ae hc;clear hc;by_cases hbad:(c.toNat:Int)<32\/127<= (c.toNat:Int)\/60<(bs.length:Int)
   ·have bj:=ae (abe oM.out (by rw [Hc.out];omega))
    by_cases q1:(c.toNat:Int)<32
    ·have Ay:decide ((c.toNat:Int)<32)=true:=by simpa using q1
     clear hbad;go_wp2_with fail;(refine(lC r s2 false _ hr2).mono ?_);rintro e w3 ⟨rfl,rfl⟩;rw [Hc.out];go_wp2_with fail;(refine(dz r s2 false _ hr2).mono ?_);rintro e w4 ⟨rfl,hr4,h4⟩;have h5:=hx.trans h4;go_wp2_with fail;refine aF (h:= ?_);rw [bj.out];exact⟨h5,⟨#[]⟩,⟨#[]⟩,true,rfl,by decide,hr4, .inr ⟨rfl,rfl,rfl⟩⟩
    ·have Ay:decide ((c.toNat:Int)<32)=false:=by simpa using q1
     by_cases q2:127<= (c.toNat:Int)
     ·have Rm:decide (127<= (c.toNat:Int))=true:=by simpa using q2
      clear hbad;go_wp2_with fail;(refine(lC r s2 false _ hr2).mono ?_);rintro e w3 ⟨rfl,rfl⟩;rw [Hc.out];go_wp2_with fail;(refine(dz r s2 false _ hr2).mono ?_);rintro e w4 ⟨rfl,hr4,h4⟩;have h5:=hx.trans h4;go_wp2_with fail;refine aF (h:= ?_);rw [bj.out];exact⟨h5,⟨#[]⟩,⟨#[]⟩,true,rfl,by decide,hr4, .inr ⟨rfl,rfl,rfl⟩⟩
     ·have Rm:decide (127<= (c.toNat:Int))=false:=by simpa using q2
      have q3:60<bs.length:=by omega
      have q3i:(60:Int)<(bs.length:Int):=by omega
      clear hbad;go_wp2_with fail;(refine(lC r s2 false _ hr2).mono ?_);rintro e w3 ⟨rfl,rfl⟩;rw [Hc.out];go_wp2_with fail;(refine(dz r s2 false _ hr2).mono ?_);rintro e w4 ⟨rfl,hr4,h4⟩;have h5:=hx.trans h4;go_wp2_with fail;refine aF (h:= ?_);rw [bj.out];exact⟨h5,⟨#[]⟩,⟨#[]⟩,true,rfl,by decide,hr4, .inr ⟨rfl,rfl,rfl⟩⟩
   ·have q1:¬(c.toNat:Int)<32:=by omega
    have q2:¬127<= (c.toNat:Int):=by omega
    have q3:¬60<bs.length:=by omega
    have q3i:¬(60:Int)<(bs.length:Int):=by omega
    have Ay:decide ((c.toNat:Int)<32)=false:=by simpa using q1
    have Rm:decide (127<= (c.toNat:Int))=false:=by simpa using q2
    have hne:s2.data.toList≠ []:=fun h=>by have:=Hc.out;rw [h] at this;rw [<-this] at q1;exact q1 (by decide)
    have Rn:s2.data.toList.length=s2.size:=Array.length_toList;have hpos:1<=s2.size:=by rw [<-Rn];exact List.length_pos_iff.2 hne
    have aa4:(1:Int)<= (s2.size:Int):=by omega
    obtain⟨u,hu⟩:∃u,s2.extract 1 s2.size=u:=⟨_,rfl⟩;have Aw:u.data.toList=s2.data.toList.drop 1:=by rw [<-hu];exact rD s2 1
    have p7:s2.data.toList=c::u.data.toList:=by
     rw [Aw];have:=Hc.out
     cases hq:s2.data.toList with
     |nil=>exact absurd hq hne
     |cons d t=>rw [hq] at this;simp only [fZ,List.headD_cons] at this;rw [this];rfl
    have CU:=ae (abg p7);have aP:=ae (abf oM.out p7 (by omega));clear hbad hne Rn Aw p7;have hR:Rd r w (wr.setCell ⟨r,0,none⟩ (.string u)):=hx.set _ _;have oL:Sr (wr.setCell ⟨r,0,none⟩ (.string u)) r u false:=aj;have Ro:cW (wr.setCell ⟨r,0,none⟩ (.string u)) w.heap.size (.slice a0 bs.length c0) bs:=cW.rd ((Rd.refl r wr).set _ _) hlt bW.out;have KW:=ae Ro;clear Ro;by_cases KX:(c.toNat:Int)=34
    ·have lB:c=34:=by apply UInt8.toNat_inj.1;simpa using (by omega:c.toNat=34)
     have kU:=ae (show R=some (bs,u.data.toList) by have:=aP.out;rw [if_pos lB] at this;exact this);have hcv:=QS KW.out;have abj:((c.toNat:Int)==34)=true:=by simpa using KX
     clear lB aP;go_wp2_with fail;(refine(lC r s2 false _ hr2).mono ?_);rintro e w3 ⟨rfl,rfl⟩;rw [Hc.out];go_wp2_with fail;refine aF (h:= ?_);rw [kU.out];exact⟨hR,⟨bs.toArray⟩,u,false,rfl,by simpa [ByteArray.size] using hbl,oL, .inl ⟨rfl,by simp⟩⟩
    ·have lB:c≠34:=fun h=>KX (by rw [h];rfl)
     have abj:((c.toNat:Int)==34)=false:=by simpa using KX
     have KR:u.size<=1048576:=by have:=CU.out;omega
     go_wp2_with fail;(refine(lC r s2 false _ hr2).mono ?_);rintro e w3 ⟨rfl,rfl⟩;rw [Hc.out];go_upto_region 9 with fail
     refine aI (R:=fun wx=>Sr wx r u false/\cW wx w.heap.size (.slice a0 bs.length c0) bs/\Rd r w wx) ⟨oL,KW.out,hR⟩ ?_;clear oL KW hR hx bW hr2 hcr uA hlr hxs;rintro wz ⟨kX,Rq,bF⟩;have Rs:=ae Rq;have eJ:=bF.size;clear Rq;by_cases CV:(c.toNat:Int)=92
     ·have rC:c=92:=by apply UInt8.toNat_inj.1;simpa using (by omega:c.toNat=92)
      have abk:((c.toNat:Int)==92)=true:=by simpa using CV
      have oH:=ae (show R=(jY u.data.toList).bind fun p=>gw s2.size p.2 (bs++ [p.1]) by have:=aP.out;rw [if_neg lB,if_pos rC] at this;exact this);have H92:=ae CV;clear rC lB aP CV;go_wp2_with fail;(refine(aa2 r u KR _ kX).mono ?_);rintro e w5 ⟨h5,m,u2,KY,rfl,uC,dx⟩;have bG:=bF.trans h5;have iE:=ae (cW.rd h5 hlt Rs.out);have KZ:u2.data.toList.length=u2.size:=Array.length_toList;have abl:u.data.toList.length=u.size:=Array.length_toList;have htx:u2.size<s2.size/\Ax R u2 KY (bs++ [m]):=by
       rcases dx with⟨rfl,he⟩|⟨rfl,h0,he⟩
       ·have h1:=EY he
        simp only at h1;have h2:=CU.out;refine⟨by omega,(fun h=>by cases h), .inl ⟨rfl,?_⟩⟩;rw [oH.out,he];exact JI _ _ _ _ (by omega) (by omega)
       ·have h2:=CU.out
        rw [h0] at KZ;refine⟨by simp at KZ;omega,fun _=>h0, .inr ⟨rfl,?_⟩⟩;rw [oH.out,he];rfl
      obtain⟨dA,htx⟩:=htx;have lM:=ae htx;clear dx htx KZ abl kX bF;go_wp2_with (at_builtin;refine mV (by rfl) _ _ _ (by rfl) (by rfl) w.heap.size (.slice a0 bs.length c0) bs (by rfl) (iE.out.ext Xt) ⟨(w5).heap.size,0,none⟩ 1 1 [m] (by rfl) (by rfl) (World.news_of_block (cs:= #[.int .u8 (m).toNat]) (t:=5) (fr:=(0,0)) (heap_alloc_new w5 _)) (by omega) (by have:=Rd.size bG;simp;omega) ?_;intro v7 w7 yH yI;have jg:Sr w7 r u2 KY:=af.grown (af.alloc uC _) yI Rl.out;have cy:Rd r w w7:=Rd.grown (Rd.ext bG hlt Xt) yI (fun g hg=>(FU.out g hg)) hlt;obtain⟨a7,c7,rfl,-⟩:=yH.form;have K0:=ae yH;clear yH yI);go_roundg u2.size
      case measure=>exact dA
      case rel=>exact⟨u2,KY,bs++ [m],a7,c7,by simp,jg,K0.out,by simp;omega,rfl,by omega,cy,lM.out⟩
     ·have rC:c≠92:=fun h=>CV (by rw [h];rfl)
      have abk:((c.toNat:Int)==92)=false:=by simpa using CV
      have htx:Ax R u false (bs++ [c]):=by have h1:=aP.out;rw [if_neg lB,if_neg rC] at h1;exact⟨(fun h=>by cases h), .inl ⟨rfl,by rw [h1,CU.out]⟩⟩
      have lM:=ae htx;clear htx lB rC;go_wp2_with (at_builtin;refine mV (by rfl) _ _ _ (by rfl) (by rfl) w.heap.size (.slice a0 bs.length c0) bs (by rfl) (Rs.out.ext Xt) ⟨(wz).heap.size,0,none⟩ 1 1 [c] (by rfl) (by rfl) (World.news_of_block (cs:= #[.int .u8 (c).toNat]) (t:=5) (fr:=(0,0)) (heap_alloc_new wz _)) (by omega) (by have:=Rd.size bF;simp;omega) ?_;intro v7 w7 yH yI;have jg:Sr w7 r u false:=af.grown (af.alloc kX _) yI Rl.out;have cy:Rd r w w7:=Rd.grown (Rd.ext bF hlt Xt) yI (fun g hg=>(FU.out g hg)) hlt;obtain⟨a7,c7,rfl,-⟩:=yH.form;have K0:=ae yH;clear yH yI);go_roundg u.size
      case measure=>have:=CU.out;omega
      case rel=>exact⟨u,false,bs++ [c],a7,c7,by simp,jg,K0.out,by simp;omega,rfl,KR,cy,lM.out⟩
end Go.Proofs.YtlcebdaghmdkeabGreatDoor
