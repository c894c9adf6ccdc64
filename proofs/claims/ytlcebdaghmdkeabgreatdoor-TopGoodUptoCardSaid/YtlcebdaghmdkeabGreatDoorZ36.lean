import Derived.Test.YtlcebdaghmdkeabGreatDoorZ20
import Derived.Test.YtlcebdaghmdkeabGreatDoorZ23
import Derived.Test.YtlcebdaghmdkeabGreatDoorZ35
set_option linter.all false
set_option maxRecDepth 100000
set_option maxHeartbeats 64000000
namespace Go.Proofs.YtlcebdaghmdkeabGreatDoor
open Go.Proofs.Tryz
open Go.RowKit
attribute [local go_sem↓] Go.wp_at_zero Go.wp_at_succ
def lY (w:World) (base:Nat) (T:az) (v:Value) (n:Nat) (l:List bM):Prop:=
 l.length=n/\∃xs,w.ownsRow base 198 8 v n xs/\pW w (fun b=>T b/\v.ownBlock≠some b) l xs
theorem lY.nil (w:World) (base:Nat) (T:az):lY w base T (.slice none 0 0) 0 []:=⟨rfl, [],World.ownsRow_nil _ _ _ _,rfl⟩
theorem lY.ext {w w':World} {base:Nat} {T:az} {v:Value} {n:Nat} {l:List bM} (h:lY w base T v n l) (e:Ext w w'):lY w' base T v n l:=by
 obtain⟨h0,xs,h1,h2⟩:=h;exact⟨h0,xs,eD h1 e,h2.keep (e.kept _) (fun _ h _=>h)⟩
theorem lY.held {w w':World} {base:Nat} {T:az} {v:Value} {n:Nat} {l:List bM} (h:lY w base T v n l) (e:Held (fun b=>b<w.heap.size) w w'):lY w' base T v n l:=by
 obtain⟨h0,xs,h1,h2⟩:=h;exact⟨h0,xs,dX h1 (fun b hb _=>e.block b hb hb),h2.keep (fun b _ hl=>e.block b hl hl) (fun _ h _=>h)⟩
theorem pW.snoc {w:World} {T:az} {l:List bM} {xs:List Value} (h:pW w T l xs) {x:bM} {ka:au} {kc:Nat} {la:au} {lc:Nat} (hx:x.v.In w T ka kc la lc):pW w T (l++ [x]) (xs++x.eight ka kc la lc):=by
 induction l generalizing xs with
 |nil=>subst h;exact⟨ka,kc,la,lc, [],by simp,hx,rfl⟩
 |cons y r ih=>
  obtain⟨a,b,c,d,t,rfl,h1,h2⟩:=h;exact⟨a,b,c,d,_,by rw [List.append_assoc],h1,ih h2⟩
theorem lY.form {w:World} {base:Nat} {T:az} {v:Value} {n:Nat} {l:List bM} (h:lY w base T v n l):∃a c,v= .slice a n c/\aM a n c:=by
 obtain⟨-,xs,h1,-⟩:=h;exact fT h1
theorem lY.ops {w:World} {base n c:Nat} {T U:az} {a:au} {l:List bM} (h:lY w base T (.slice a n c) n l) (h1:∀b,T b->U b) (h2:∀b,base<=b->U b):oX w U a l:=by
 obtain⟨h0,xs,h3,h4⟩:=h;exact(XK h0 h3 h4).mono fun b h=>h.elim (fun h=>h1 b h.1) (h2 b)
theorem bM.adr (o:bM) (ka:au) (kc:Nat) (la:au) (lc:Nat):∀u∈o.eight ka kc la lc,u.oneCell'=true:=by
 intro u hu;simp only [bM.eight,List.mem_cons,List.not_mem_nil,or_false] at hu;rcases hu with rfl|rfl|rfl|rfl|rfl|rfl|rfl|rfl<;>rfl
theorem ads {wr W:World} {ops:Array Oper} {rest:List Oper} {o:Oper} {a:Act} {Q:Exit->Act->World->Prop} {base n:Nat} {T:az} {vl:Value} {l:List bM} {x:bM} {ka:au} {kc:Nat} {la:au} {lc:Nat} (hgd:o.guard=none) (B:Nat) {s t:Operand}
 (ho:o.op= .call {callee:= .builtin .append,args:= #[s,t],argTypes:= #[141,141]}) (hs:a.eval s=vl) (hx:a.eval t= .slice (some ⟨B,0,none⟩) 1 1)
 (hI:lY wr base T vl n l) (e:Ext wr W) (hv:x.v.In W (fun b=>T b/\vl.ownBlock≠some b) ka kc la lc) (hB:af W B (x.eight ka kc la lc).toArray 198) (hn:n<=1073741824) (hbase:base<=wr.heap.size)
 (h:∀g cap w',lY w' base T (.slice (some ⟨g,0,none⟩) (n+1) cap) (n+1) (l++ [x])->W.grownBy w' vl.ownBlock->Held (fun b=>b<base) W w'->wpList prog ops Q rest (a.put o.dst (.slice (some ⟨g,0,none⟩) (n+1) cap)) w'):wpList prog ops Q (o::rest) a W:=by
 obtain⟨j0,hj,hy0,hy1,hy2⟩:=info_parts Tryz.XJ;obtain⟨hl0,xs,pk,xa⟩:=hI;refine wpList_plain hgd fun _ hK=>wp_append_lies _ s t _ ho base 198 j0 _ 8 120 underlying141 hj hy0 hy1 hy2 rfl (by decide) vl n xs hs (eD pk e) ⟨B,0,none⟩ 1 1 (x.eight ka kc la lc) hx (by rfl) (World.news_of_block (cs:=(x.eight ka kc la lc).toArray) (t:=198) (fr:=(0,0)) hB) (bM.adr x ka kc la lc) (by omega) (by unfold maxLen;omega) (by omega) (Nat.le_trans hbase e.size) _ rfl ?_;intro g cap w' hown hgrow hat hlt;have hk:∀b,(T b/\vl.ownBlock≠some b)->b<W.heap.size->w'.heap[b]? =W.heap[b]? :=fun b hb hl=>hgrow.block b hl (fun he=>hb.2 he.symm)
 have hT:∀b,(T b/\vl.ownBlock≠some b)->b<W.heap.size-> (T b/\ (Value.slice (some ⟨g,0,none⟩) (n+1) cap).ownBlock≠some b):=fun b hb hl=>⟨hb.1,fun he=>by
  have hg:g=b:=by simpa [Value.ownBlock] using he
  subst hg;rcases hat with hat|hat
  ·exact hb.2 hat
  ·omega⟩
 refine hK _ _ (h g cap w' ⟨by simp [hl0],_,hown,?_⟩ hgrow (Held.grown (Held.refl _ _) hgrow (fun q hq hT=>by have:=(pk.lt q hq).1;omega)));exact((xa.keep (e.kept _) (fun _ h _=>h)).keep hk hT).snoc (hv.keep hk hT)
theorem adt (x:V) (ka:au) (kc:Nat) (la:au) (lc:Nat) (S:az) (w:World) (hsz:x.size<=1073741824) (eF:rN w) (hin:x.In w S ka kc la lc):
 Calls prog 89 #[x.val ka kc la lc] w fun e w'=>∃a n c,e= .returned (.tuple #[.slice a n c, .int .i64 (jM x).2])/\ (jM x).1.length=n/\aM a n c/\oX w' (aW S w) a (jM x).1/\Ext w w':=by
 have aJ:=ae (show x.In w (fun q=>S q/\q<w.heap.size) ka kc la lc from hin.mono fun b h h'=>⟨h,h'⟩);have ij:=ae eF;have hll:=x.kB;clear hin eF
 cases hf:x.fine with
 |false=>
  have Hf:=ae hf;have Hr:=ae (T5 (v:=x) (.inl hf));clear hf;go_enter func89,ntmps89;go_wp2_with fail;(refine(cT x ka kc la lc _ _ hsz (aJ.out.ext Xt)).mono ?_);rw [Hf.out];rintro e w1 ⟨rfl,h1⟩;have hx1:Ext w w1:=Xt;clear h1;go_wp2_with fail;go_ret2;rw [Hr.out];exact⟨none,0,0,rfl,rfl,aM.nil, .inl rfl,Xt⟩
 |true=>
  have Hf:=ae hf;by_cases h4:x.k=4
  ·have D9:(x.k !=4)=false:=by simpa using h4
   have H4:=ae h4;by_cases h20:20<x.l.length
   ·have K5:(20:Int)<(x.l.length:Int):=by omega
    have Hr:=ae (ado hf h4 h20);clear hf h4 h20;go_enter func89,ntmps89;go_upto_region 1 with fail
    refine aI (R:=fun wx=>aD wx w.heap.size x ka kc la lc/\Ext w wx) ⟨aj,Xt⟩ ?_;rintro wa ⟨ag,aH⟩;obtain⟨hc0,aw,hl0⟩:=ag.see;go_wp2_with fail;(refine(cT x ka kc la lc _ _ hsz (aJ.out.ext Xt)).mono ?_);rw [Hf.out];rintro e w1 ⟨rfl,h1⟩;have ag:=af.ext (w':=w1) Xt ag;have hx1:Ext w w1:=Xt;clear h1 aH hc0 aw hl0;obtain⟨hc0,aw,hl0⟩:=ag.see;go_wp2_with fail;go_ret2;rw [Hr.out];exact⟨none,0,0,rfl,rfl,aM.nil, .inl rfl,Xt⟩
   ·have K5:¬(20:Int)<(x.l.length:Int):=by omega
    have T6:=ae h20;have rX:x.l.length<=20:=by omega
    clear hf h4 h20;go_enter func89,ntmps89;go_upto_region 1 with fail
    refine aI (R:=fun wx=>aD wx w.heap.size x ka kc la lc/\Ext w wx) ⟨aj,Xt⟩ ?_;rintro wa ⟨ag,aH⟩;obtain⟨hc0,aw,hl0⟩:=ag.see;go_wp2_with fail;(refine(cT x ka kc la lc _ _ hsz (aJ.out.ext Xt)).mono ?_);rw [Hf.out];rintro e w1 ⟨rfl,h1⟩;have ag:=af.ext (w':=w1) Xt ag;have hx1:Ext w w1:=Xt;have hz1:=ag.lt;clear h1 aH hc0 aw hl0;obtain⟨hc0,aw,hl0⟩:=ag.see;go_wp2_with fail;clear hc0 aw hl0 ag
    go_loopg [4,6,7,8,24] x.l.length (fun g t4 _ _ _ i wr=>∃(k:Nat) (os:List bM) (a3:au) (c3:Nat),k<=x.l.length/\i= .int .i64 k/\g=x.l.length-k/\t4= .slice a3 k c3/\Hid (lY wr w1.heap.size (aW S w) (.slice a3 k c3) k os)/\Hid (nA (x.l.take k)=some os)/\Ext w wr/\w1.heap.size<=wr.heap.size)
    case atStart=>exact⟨0, [],none,0,by omega,rfl,rfl,rfl,ae (lY.nil _ _ _),ae rfl,hx1,by omega⟩
    case round=>
     clear hx1;obtain⟨k,os,a3,c3,hk,rfl,rfl,rfl,HO,kF,hx,yz⟩:=hrel;by_cases hlt:k<x.l.length
     ·obtain⟨bq,oq,rfl,hSq,iD,iE,iY,iF,⟨d0,d1,d2,d3,d4⟩,hin'⟩:=aJ.out.item hlt
      have d0:=hx.cell d0;have d1:=hx.cell d1;have d2:=hx.cell d2;have d3:=hx.cell d3;have d4:=hx.cell d4;have kY:(0:Int)<= (k:Int):=by omega
      have kZ:(k:Int)<(x.l.length:Int):=by omega
      have Bg:=ae hin';have gf:=V.qy hlt;have rM:=ae (fun h:x.l[k].iQ=none=>adp Hf.out H4.out T6.out hlt h);have rW:=ae (fun(o:bM) (h:x.l[k].iQ=some o)=>adn hlt kF.out h);clear hin';go_upto_region 9 with fail
      refine aI (R:=fun wx=>lY wx w1.heap.size (aW S w) (.slice a3 k c3) k os/\af wx wr.heap.size #[.int .i64 x.l[k].k, .int .i64 x.l[k].n, .string x.l[k].s, .slice iD x.l[k].keys.length iE, .slice iY x.l[k].l.length iF] 36/\Ext w wx/\w1.heap.size<=wx.heap.size) ⟨HO.out.ext Xt,aj,Xt,by simp;omega⟩ ?_;clear HO hx d0 d1 d2 d3 d4 yz;rintro wb ⟨hO,T7,hx,hzb⟩;have HO:=ae hO;clear hO;obtain⟨hcq,hfq,hlq⟩:=T7.see;go_wp2_with fail;(refine(adh x.l[k] iD iE iY iF (fun q=>S q/\q<w.heap.size) _ (by omega) (ij.out.ext Xt) (Bg.out.ext Xt)).mono ?_);rintro e w2 ⟨o,kb,kd,lb,ld,ob,rfl,Ep,heq,h2⟩;have xO:=ae heq;have hy2:Ext wb w2:=Xt;have hx2:=hx.trans hy2;have hz2:=hy2.size;have hOb:=HO;have HO:=ae (HO.out.ext hy2)
      have Er:=ae (show o.v.In w2 (fun b=>aW S w b/\ (Value.slice a3 k c3).ownBlock≠some b) kb kd lb ld from Ep.mono fun b h hl=>⟨by rcases h with h|h;exact .inl h.1;exact .inr (by(try simp at h);omega),fun he=>by
       have h5:=HO.out;obtain⟨-,xs,h6,-⟩:=h5;have h7:=h6.lt b he;rcases h with h|h
       ·omega
       ·have h8:=he
        obtain⟨-,ys,h9,-⟩:=hOb.out;have h10:=(h9.lt b he).2;(try simp at h)
        omega⟩)
      clear h2 Ep heq hx hcq hfq hlq T7
      cases ob with
      |false=>
       have Hr:=ae (rM.out (by rw [xO.out];rfl));go_wp2_with fail;go_ret2;rw [Hr.out];exact⟨none,0,0,rfl,rfl,aM.nil, .inl rfl,Xt⟩
      |true=>
       have Hn:=ae (rW.out o (by rw [xO.out];rfl));go_upto_region 12 with fail
       refine aI (R:=fun wx=>lY wx w1.heap.size (aW S w) (.slice a3 k c3) k os/\af wx w2.heap.size #[.int .i64 o.k, .string o.p, .string o.f, .int .i64 (o.v).k, .int .i64 (o.v).n, .string (o.v).s, .slice kb (o.v).keys.length kd, .slice lb (o.v).l.length ld] 198/\o.v.In wx (fun b=>aW S w b/\ (Value.slice a3 k c3).ownBlock≠some b) kb kd lb ld/\Ext w wx/\w1.heap.size<=wx.heap.size) ⟨HO.out.ext Xt,aj,Er.out.ext Xt,Xt,by simp;omega⟩ ?_;clear HO Er hx2 hy2 hz2 hzb;rintro wc ⟨hO,hBo,Ep,hx,o9⟩;have HO:=ae hO;have Er:=ae Ep;clear hO Ep;obtain⟨hco,hfo,hlo⟩:=hBo.see;go_upto_region 13 with(at_builtin;refine ads (by rfl) wc.heap.size (by rfl) (by rfl) (by rfl) HO.out Xt (Er.out.ext Xt) aj (by omega) o9 ?_;intro g3 zB w3 lD jK Ch)
       have hx3:Ext w w3:=Ext.grown (Ext.trans hx (show Ext wc _ from Xt)) jK (fun q hq=>by obtain⟨-,xs,h1,-⟩:=HO.out;have:=(h1.lt q hq).1;omega);have hz3:=Ch.size;clear jK Ch HO Er;go_wp2_with fail;go_roundg (x.l.length-(k+1))
       case measure=>omega
       case rel=>exact⟨k+1,_,_,_,by omega,by go_num,rfl,rfl,ae lD,Hn,hx3,by first|omega|(simp at hz3;omega)⟩
     ·obtain rfl:k=x.l.length:=by omega
      have Hr:=ae (adq Hf.out H4.out T6.out kF.out);have hl0:=HO.out.1;obtain⟨a6,c6,T8,jq⟩:=HO.out.form;simp only [Value.slice.injEq,true_and] at T8;obtain⟨rfl,rfl⟩:=T8;have DM:=ae (HO.out.ops (U:=aW S w) (fun _ h=>h) (fun b h=> .inr (by omega)));have Ms:=ae hl0;have MR:=ae jq;clear hl0 jq HO;go_wp2_with fail;go_ret2;rw [Hr.out];exact⟨a3,_,c3,rfl,Ms.out,MR.out,DM.out.ext Xt,Xt⟩
  ·have D9:(x.k !=4)=true:=by simpa using h4
   have Hr:=ae (T5 (v:=x) (.inr h4));clear hf h4;go_enter func89,ntmps89;go_upto_region 1 with fail
   refine aI (R:=fun wx=>aD wx w.heap.size x ka kc la lc/\Ext w wx) ⟨aj,Xt⟩ ?_;rintro wa ⟨ag,aH⟩;obtain⟨hc0,aw,hl0⟩:=ag.see;go_wp2_with fail;(refine(cT x ka kc la lc _ _ hsz (aJ.out.ext Xt)).mono ?_);rw [Hf.out];rintro e w1 ⟨rfl,h1⟩;have ag:=af.ext (w':=w1) Xt ag;have hx1:Ext w w1:=Xt;clear h1 aH hc0 aw hl0;obtain⟨hc0,aw,hl0⟩:=ag.see;go_wp2_with fail;go_ret2;rw [Hr.out];exact⟨none,0,0,rfl,rfl,aM.nil, .inl rfl,Xt⟩
theorem aT.plus {P:az} {a b c:World} (h:aT (fun b=>¬P b) a b) (k:aT (fun x=>¬aW P a x) b c):aT (fun b=>¬P b) a c:=
 ⟨k.os.trans h.os,k.tape.trans h.tape,k.output.trans h.output,Nat.le_trans h.size k.size,fun i hi hl=>(k.block i (by rintro(h|h);exact hi h;omega) (Nat.lt_of_lt_of_le hl h.size)).trans (h.block i hi hl)⟩
theorem Sat.plus {P:az} {a b c:World} {r:Nat} {s:Sv} (h:Sat c (aW (aW P a) b) r s) (hs:a.heap.size<=b.heap.size):Sat c (aW P a) r s:=
 h.mono fun x hx=>by rcases hx with hx|hx;exact hx;exact .inr (Nat.le_trans hs hx)
theorem afd {s:Sv} {k:Nat} {t:Th} (hk:k<s.ax.length) (ht:s.ax[k]=t) (o:Int):(xV s k t o).1= {s with ax:=s.ax.set k (t.ord s.time o)}:=by
 unfold xV;by_cases h:(t.next s.time o).2=0
 ·rw [if_neg (by simpa using h)]
 ·rw [if_pos h]
  have:t.ord s.time o=t:=by unfold Th.ord;rw [if_neg h]
  rw [this,<-ht,List.set_getElem_self]
theorem map_set {α:Type} (f:α->α) (l:List α) (k:Nat) (h:k<l.length):((l.take k).map f++l.drop k).set k (f l[k])=(l.take (k+1)).map f++l.drop (k+1):=by
 have hl:((l.take k).map f).length=k:=by simp;omega
 rw [List.set_append_right _ _ (by omega),hl,Nat.sub_self,List.drop_eq_getElem_cons h,List.set_cons_zero,List.take_succ_eq_append_getElem h,List.map_append,List.append_assoc];rfl
theorem afe {α:Type} (f:α->α) (l:List α) (k:Nat) (h:k<l.length):∃h',((l.take k).map f++l.drop k)[k]'h'=l[k]:=by
 have hl:((l.take k).map f).length=k:=by simp;omega
 exact List.getElem?_eq_some_iff.1 (by rw [List.getElem?_append_right (by omega),hl,Nat.sub_self,List.getElem?_drop,Nat.add_zero,List.getElem?_eq_getElem h])
theorem aeU (P:az) (r:Nat) (s:Sv) (n:Int) (w:World) (fR:Sat w P r s) (hb:s.ax.length<=1073741824) (hz:∀t∈s.ax,t.v.size<=1073741824) (ht0:0<=s.time) (ht1:s.time<=1099511627776):
 Calls prog 52 #[.pointer (some ⟨r,0,none⟩), .int .i64 n] w fun e w'=>e= .returned (.int .i64 (oM s n).2.c)/\Sat w' (aW P w) r (oM s n).1/\aT (fun b=>¬P b) w w':=by
 obtain⟨v,xs,h⟩:=fR;have ag:=h.box;have hlr:=ag.lt;have fx:=ae h;have Hz:=ae hz;have BI:=ae h.pr;clear h hz;by_cases h1:n<1
 ·have Hr:=ae (show oM s n=(s, .no 8) by unfold oM;rw [if_pos (.inl h1)])
  obtain⟨hc0,aw,hl0⟩:=ag.see;go_enter func52,ntmps52;go_wp2_with fail;go_ret;rw [Hr.out];exact⟨rfl,Kept.of (w:=w) (T:=P) fx.out Xt,(show Ext w _ from Xt).upd _⟩
 ·by_cases h2:1099511627776-s.time<n
  ·have Hr:=ae (show oM s n=(s, .no 8) by unfold oM;rw [if_pos (.inr h2)])
   obtain⟨hc0,aw,hl0⟩:=ag.see;go_enter func52,ntmps52;go_wp2_with fail;go_ret;rw [Hr.out];exact⟨rfl,Kept.of (w:=w) (T:=P) fx.out Xt,(show Ext w _ from Xt).upd _⟩
  ·obtain⟨T,hT⟩:∃T,s.time+n=T:=⟨_,rfl⟩
   have Hr:=ae (show oM s n=({s with ax:=s.ax.map fun t=>t.ord T 0,time:=T}, .no 0) by unfold oM;rw [if_neg (by omega),hT]);have hT0:0<=T:=by omega
   have hT1:T<=1099511627776:=by omega
   obtain⟨a,c,hv,hok⟩:=fT fx.out.own;subst hv;obtain⟨hc0,aw,hl0⟩:=ag.see;go_enter func52,ntmps52;go_upto_region 4 with fail
   refine aI (R:=fun wx=>ey wx P r {s with time:=T} (.slice a s.ax.length c) xs/\aT (fun b=>¬P b) w wx) ⟨?_,(aT.refl _ _).set (fun h=>absurd BI.out h) _⟩ ?_
   ·have hB:af (w.setCell ⟨r,1,none⟩ (.int .i64 T)) r #[.slice a s.ax.length c, .int .i64 T, .int .i64 s.last, .int .i64 s.acts] 74:=aj
    have hk:Kept (fun b=>b≠r) w (w.setCell ⟨r,1,none⟩ (.int .i64 T)):=Held.kept aC;exact⟨hB,fx.out.pr,dX fx.out.own (fun b hl he=>hk b (fx.out.row b he).2 hl),fx.out.row,fx.out.cells.keep (fun b hb hl=>hk b hb.2.1 hl) (fun _ h _=>h)⟩
   clear ag hc0 aw hl0;rintro wa ⟨fR,hup⟩;have ag:=fR.box;have rA:=ae (fR.mono (aW.old (w:=w)));clear fR hT h1 h2;obtain⟨hc0,aw,hl0⟩:=ag.see;go_wp2_with fail
   go_loopg [5,30] s.ax.length (fun g _ i wr=>∃k:Nat,k<=s.ax.length/\i= .int .i64 k/\g=s.ax.length-k/\Sat wr (aW P w) r {s with ax:=(s.ax.take k).map (fun t=>t.ord T 0)++s.ax.drop k,time:=T}/\aT (fun b=>¬P b) w wr)
   case atStart=>exact⟨0,by omega,rfl,rfl,⟨_,_,by simpa using rA.out⟩,hup⟩
   case round=>
    clear ag hc0 aw hl0 hup;obtain⟨k,hk,rfl,rfl,Vl,hup⟩:=hrel;have Vm:=ae Vl;clear Vl;by_cases hlt:k<s.ax.length
    ·obtain⟨hk',hget⟩:=afe (fun t:Th=>t.ord T 0) s.ax k hlt
     have hzt:=Hz.out _ (List.getElem_mem hlt);have ND:=ae (afd (s:= {s with ax:=(s.ax.take k).map (fun t=>t.ord T 0)++s.ax.drop k,time:=T}) hk' hget 0);have hlen:((s.ax.take k).map (fun t=>t.ord T 0)++s.ax.drop k).length<=1073741824:=by simp;omega
     have Ho:=ae (fun(w':World) (hs:Sat w' (aW P w) r {s with ax:=(s.ax.take k).map (fun t=>t.ord T 0)++s.ax.drop k,time:=T})=>UQ (aW P w) r _ k s.ax[k] 0 w' hs hk' hget hzt hlen);have hw:w.heap.size<=wr.heap.size:=hup.size;clear hk' hget hlen;go_wp2_with fail;(refine(Ho.out _ Vm.out).mono ?_);rintro e w2 ⟨rfl,hs2,hu2⟩;have jv:=ae (hs2.plus hw);have ry:=hup.plus hu2;clear hs2 hu2;rw [ND.out,map_set (fun t:Th=>t.ord T 0) s.ax k hlt] at jv;go_wp2_with fail;go_roundg (s.ax.length-(k+1))
     case measure=>omega
     case rel=>exact⟨k+1,by omega,by go_num,rfl,jv.out,ry⟩
    ·obtain rfl:k=s.ax.length:=by omega
     have cy:=ae (show Sat wr (aW P w) r {s with ax:=s.ax.map fun t=>t.ord T 0,time:=T} by simpa using Vm.out);go_wp2_with fail;go_ret;rw [Hr.out];exact⟨rfl,cy.out,hup⟩
end Go.Proofs.YtlcebdaghmdkeabGreatDoor
namespace Go.Proofs.YtlcebdaghmdkeabGreatDoor
theorem go_get:∀(r:List ah) {x y:V},x.sound->bp r x=some y->fG r x=some y
 | [],_,_,_,h=>h
 |a::r,x,y,hx,h=>by
  obtain⟨z,hm,hz⟩:=CF h;have h5:=(tO hx hm).2;have df:=iI hx h5;have hmem:a∈x.keys:=(df.wQ a).2 (by rw [hm];simp);have hb:=Fq df.dL hmem;have hlt:=tR hb;have dt:posOf x.keys a<x.l.length:=by rw [<-df.len];exact hlt
  have hm2:=hm;rw [df.member] at hm2;have hat:=AJ x.keys x.l df.len df.nodup _ hlt;rw [AK hb,hm2] at hat;have hl:x.l[posOf x.keys a]? =some z:=by rw [List.getElem?_eq_getElem dt];exact hat.symm
  rw [fG,show x.child a=some (posOf x.keys a) from by simp [V.child,h5,hb],Option.bind_some,hl,Option.bind_some];exact go_get r (qF hx hm) hz
theorem X5 (x:V):jb x x=true:=by
 unfold jb;rw [(ve x x).2 rfl];rfl
theorem Pv:∀(l:List ah) {v x:V},l≠ []->v.sound->∃y,bp l (gW l v x)=some y/\jb y x=true
 | [],_,_,h,_=>absurd rfl h
 |a::r,v,x,_,hv=>by
  have hb:=Aw hv;rw [gW];by_cases hr:r= []
  ·subst hr
   rw [if_neg (by simp)];have hput:∃y,bp [a] (v.base.put a x)=some y/\jb y x=true:=⟨x,by rw [bp,yI hb];rfl,X5 x⟩
   cases hm:v.base.member a with
   |none=>exact hput
   |some old=>
    simp only
    split
    ·rename_i hk
     exact⟨old,by rw [bp,hm];rfl,hk⟩
    ·exact hput
  ·rw [if_pos hr]
   have hbs:=Av hv;have hs:((v.base.member a).getD V.zero).sound:=by
    cases hm:v.base.member a with
    |none=>exact Pw
    |some z=>exact qF hbs hm
   obtain⟨y,h1,h2⟩:=Pv r (x:=x) hr hs;exact⟨y,by rw [bp,yI hb];exact h1,h2⟩
theorem X6 {want:V} {r:List ah} {p:ah} (hp:p∈want.leaves) (hr:cJ p=some r) {y:V} (hy:jb y ((bG want p).getD V.zero)=true):
 ∀(ps:List ah) {v:V},v.sound-> (∀q∈ps,q∈want.leaves)->bp r v=some y->bp r (ps.foldl (iJ want) v)=some y:=by
 intro ps v hv hl h;refine Fs ps hv hl (fun q hq=> ?_) h;obtain⟨-,-,s,-,hs,CG,-⟩:=qJ (hl q hq);have hnd':bJ q=s:=by unfold bJ;rw [hs];rfl
 by_cases he:q=p
 ·subst he
  rw [hr] at hs
  cases hs
  refine .inr fun z hz wR=> ?_;unfold iJ;rw [hnd',CH _ CG hz wR hy];exact wR
 ·exact .inl (by rw [hnd'];exact Px (hl q hq) hp hs hr he)
theorem JJ {want:V} {p:ah}:∀(ps:List ah) {v:V},p∈ps-> (∀q∈ps,q∈want.leaves)->v.sound->∃y,bG (ps.foldl (iJ want) v) p=some y/\jb y ((bG want p).getD V.zero)=true
 | [],_,h,_,_=>(List.not_mem_nil h).elim
 |q::ps,v,h,hl,hv=>by
  rw [List.foldl_cons];have hs:=(Fu hv (hl q (by simp))).1;by_cases he:q=p
  ·subst he
   obtain⟨-,-,s,-,hn,CG,-⟩:=qJ (hl q (by simp));have hnd':bJ q=s:=by unfold bJ;rw [hn];rfl
   obtain⟨y,h1,h2⟩:=Pv (bJ q) (v:=v) (x:=(bG want q).getD V.zero) (by rw [hnd'];exact CG) hv;refine⟨y,?_,h2⟩;unfold bG;rw [hnd'] at h1⊢;exact X6 (hl q (by simp)) hn h2 ps hs (fun q' hq'=>hl q' (by simp [hq'])) (by unfold iJ;rw [hnd'];exact h1)
  ·exact JJ ps (by rcases List.mem_cons.1 h with e|e;exact absurd e.symm he;exact e) (fun q' hq'=>hl q' (by simp [hq'])) hs
theorem Py {want:V}:∀(ps:List ah) {v:V},v.sound-> (∀q∈ps,q∈want.leaves/\∃y,bG v q=some y/\jb y ((bG want q).getD V.zero)=true)->ps.foldl (iJ want) v=v
 | [],_,_,_=>rfl
 |q::ps,v,hv,h=>by
  rw [List.foldl_cons];obtain⟨h1,y,h2,h3⟩:=h q (by simp);obtain⟨-,-,s,-,hn,CG,-⟩:=qJ h1;have hnd':bJ q=s:=by unfold bJ;rw [hn];rfl
  have:iJ want v q=v:=by unfold iJ;unfold bG at h2;rw [hnd'] at h2⊢;exact CH s CG hv h2 h3
  rw [this];exact Py ps hv (fun q' hq'=>h q' (by simp [hq']))
theorem CI (ps:List ah):qI ps=true↔(∀p∈ps,yJ p=true)/\cz ps:=by
 unfold qI;rw [decide_eq_true_eq];constructor
 ·intro h
  refine⟨fun p hp=> ?_,List.pairwise_iff_getElem.2 fun i j hi hj hij=> ?_⟩
  ·obtain⟨k,hk,rfl⟩:=List.getElem_of_mem hp
   exact(h k hk).1
  ·obtain⟨d,rfl⟩:∃d,j=i+1+d:=⟨j-i-1,by omega⟩
   clear hij
   induction d with
   |zero=>have:=(h (i+1) hj).2 (by omega);simpa using this
   |succ d ih=>
    have h1:=ih (by omega);have h2:=(h (i+1+(d+1)) hj).2 (by omega);exact tS h1 h2
 ·rintro⟨h1,h2⟩ k hk
  exact⟨h1 _ (List.getElem_mem hk),fun h0=>yK h2 (by omega) hk (by omega)⟩
theorem CJ (l:List Ow):gU l=true↔(∀o∈l,gK o.name=true/\o.paths≠ []/\qI o.paths=true)/\cz (l.map Ow.name)/\l.length<=6:=by
 constructor
 ·intro h
  refine⟨fun o ho=> ?_,JK h,?_⟩
  ·unfold gU at h
   rw [Bool.and_eq_true,decide_eq_true_eq] at h;obtain⟨i,hi,rfl⟩:=List.getElem_of_mem ho;exact⟨(h.1 i hi).1,(h.1 i hi).2.2⟩
  ·unfold gU at h
   rw [Bool.and_eq_true,decide_eq_true_eq,decide_eq_true_eq] at h;exact h.2
 ·rintro⟨h1,h2,h3⟩
  unfold gU;rw [Bool.and_eq_true,decide_eq_true_eq,decide_eq_true_eq];refine⟨fun i hi=> ?_,h3⟩;obtain⟨g1,g2,g3⟩:=h1 _ (List.getElem_mem hi);refine⟨g1,fun h0=> ?_,g2,g3⟩;have:=yK h2 (i:=i-1) (j:=i) (by simp;omega) (by simpa using hi) (by omega);simpa using this
theorem X7 (x:V):∀(d:Int) (ns:List ah),x.good d=true-> (x.eN ns).Nodup:=by
 induction x using V.ind with
 |h x ih=>
  intro d ns hg;rw [AL]
  split
  ·simp
  ·rename_i hc
   have h5:x.k=5:=Classical.byContradiction fun h=>hc (.inl h);have df:=iI (Fv hg) h5;have CK:∀y∈x.l,y.good (d+1)=true:=fun y hy=>by obtain⟨i,hi,rfl⟩:=List.getElem_of_mem hy;exact Fw hg hi
   have key:∀(l:List V) (ks:List ah),ks.Nodup-> (∀y∈l,y∈x.l)-> (V.eN.go l ks ns).Nodup/\∀q∈V.eN.go l ks ns,∃k∈ks,∃r,q=ns++k::r:=by
    intro l
    induction l with
    |nil=>intro ks _ _;rw [yL];exact⟨.nil,fun q h=>(List.not_mem_nil h).elim⟩
    |cons y l ihl=>
     intro ks hn hm
     cases ks with
     |nil=>rw [Fx];exact⟨.nil,fun q h=>(List.not_mem_nil h).elim⟩
     |cons k ks=>
      obtain⟨hk,hn⟩:=List.nodup_cons.1 hn;obtain⟨h1,h2⟩:=ihl ks hn (fun z hz=>hm z (by simp [hz]));have hy:=hm y (by simp);have h3:∀q∈y.eN (ns++ [k]),∃r,q=ns++k::r:=fun q hq=>by obtain⟨r,hr,-⟩:=JL y (d+1) _ (CK y hy) q hq;exact⟨r,by rw [hr];simp⟩
      rw [yM];refine⟨List.nodup_append.2 ⟨ih y hy (d+1) _ (CK y hy),h1,?_⟩,fun q hq=> ?_⟩
      ·intro a ha b hb e
       subst e;obtain⟨r,hr⟩:=h3 _ ha;obtain⟨k2,hk2,r2,hr2⟩:=h2 _ hb;rw [hr] at hr2;have:=List.append_cancel_left hr2;simp only [List.cons.injEq] at this;exact hk (this.1▸hk2)
      ·rcases List.mem_append.1 hq with h|h
       ·obtain⟨r,hr⟩:=h3 _ h
        exact⟨k,by simp,r,hr⟩
       ·obtain⟨k2,hk2,r2,hr2⟩:=h2 _ h
        exact⟨k2,by simp [hk2],r2,hr2⟩
   exact(key _ _ df.nodup (fun _ h=>h)).1
theorem X8 (x:V):qI x.leaves=true:=by
 rw [CI];refine⟨fun p hp=> ?_,?_⟩
 ·obtain⟨-,-,r,-,hn,hne,-⟩:=qJ hp
  unfold yJ;rw [hn];simpa using hne
 ·have hnd:x.leaves.Nodup:=by
   unfold V.leaves
   split
   ·rename_i hc
    refine(wS _).nodup_iff.2 ?_;unfold List.Nodup;rw [List.pairwise_map];have h0:=X7 x 1 [] (Fy hc.1);refine List.Pairwise.imp_of_mem (fun {a b} ha hb hne e=>hne ?_) h0;have AO:∀q∈x.eN [],cJ (lR q)=some q:=fun q hq=>by obtain⟨r,CL,-,hlen,hp⟩:=JL x 1 [] (Fy hc.1) q hq;rw [List.nil_append] at CL;subst CL;exact Pz (by have:=JM q (fun a ha=>yN (hp a ha));omega)
    have h1:=AO a ha;rw [e,AO b hb] at h1;exact(Option.some.inj h1).symm
   ·exact .nil
  have hs:Sorted x.leaves:=by
   unfold V.leaves
   split
   ·exact JN _
   ·exact .nil
  refine(hs.and hnd).imp fun {a b} h=> ?_;rcases Fz a b with e|e|e
  ·exact e
  ·exact absurd e h.2
  ·rw [h.1] at e;cases e
theorem X9 {os:List Ow} {who:ah} {ps:List ah} (h:∀o∈os,o.name≠who):p8 (fK os who ps) who=ps:=by
 have hno:∀l:List Ow,(∀o∈l,o.name≠who)->l.find? (fun o=>decide (o.name=who))=none:=fun l hl=>List.find?_eq_none.2 fun o ho=>by simpa using hl o ho
 unfold fK
 split
 ·rename_i he
  unfold p8;rw [hno os h,he]
 ·unfold p8
  rw [List.find?_append,hno _ (fun o ho=>h o (List.mem_of_mem_take ho)),List.find?_cons,decide_eq_true (show (⟨who,ps⟩:Ow).name=who from rfl)];rfl
theorem FA {os:List Ow} {who:ah} {ps:List ah} {o:Ow} (h:o∈fK os who ps):o∈os\/ (o=⟨who,ps⟩/\ps≠ []):=by
 unfold fK at h
 split at h
 ·exact .inl h
 ·rename_i hne
  rcases List.mem_append.1 h with h|h
  ·exact .inl (List.mem_of_mem_take h)
  ·rcases List.mem_cons.1 h with h|h
   ·exact .inr ⟨h,hne⟩
   ·exact .inl (List.mem_of_mem_drop h)
theorem Ya {v want:V} {who:ah} {l:List Ow}:∀o∈ez v want who l,o.name≠who:=fun o h=>by
 obtain⟨-,-,-,h,-⟩:=wT h;exact h
theorem Yb {ks:List ah} {key:ah} (h:key∉ks):hasB ks key=false:=by
 cases hb:hasB ks key with
 |false=>rfl
 |true=>exact absurd (by have:=AK hb;rw [<-this];exact List.getElem_mem _) h
theorem Yc {os:List Ow} {who:ah} {ps:List ah} (h:∀o∈os,o.name≠who) (hr:cz (os.map Ow.name)):cz ((fK os who ps).map Ow.name):=by
 unfold fK
 split
 ·exact hr
 ·have:=CM hr (key:=who) (Yb (fun hm=>by
   obtain⟨o,ho,e⟩:=List.mem_map.1 hm
   exact h o ho e))
  unfold mS;rw [List.map_append,List.map_take,List.map_cons,List.map_drop];exact this
theorem Yd {os:List Ow} {who:ah} {ps:List ah} (h:∀o∈os,o.name≠who):(fK os who ps).filter (fun o=>decide (o.name≠who))=os:=by
 have hall:∀l:List Ow,(∀o∈l,o.name≠who)->l.filter (fun o=>decide (o.name≠who))=l:=fun l hl=>List.filter_eq_self.2 fun o ho=>by simpa using hl o ho
 unfold fK
 split
 ·exact hall os h
 ·rw [List.filter_append,List.filter_cons,if_neg (by simp),hall _ (fun o ho=>h o (List.mem_of_mem_take ho)),hall _ (fun o ho=>h o (List.mem_of_mem_drop ho)),List.take_append_drop]
theorem FB {who:ah}:∀(l:List Ow) (a:List ah),(∀o∈l,o.name≠who)->l.foldl (fun old o=>if o.name=who then o.paths else old) a=a
 | [],_,_=>rfl
 |o::r,a,h=>by rw [List.foldl_cons,if_neg (h o (by simp)),FB r a (fun o ho=>h o (by simp [ho]))]
theorem Ye {os:List Ow} {who:ah} {ps:List ah} (h:∀o∈os,o.name≠who):lS who (fK os who ps)=ps:=by
 unfold lS fK
 split
 ·rename_i he
  rw [FB _ _ h,he]
 ·rw [List.foldl_append,FB _ _ (fun o ho=>h o (List.mem_of_mem_take ho)),List.foldl_cons,if_pos (show (⟨who,ps⟩:Ow).name=who from rfl),FB _ _ (fun o ho=>h o (List.mem_of_mem_drop ho))]
theorem PA {paths:List ah} {out:List Ow}:∀(ps:List ah) (v:V),(∀p∈ps,p∈paths)->ps.foldl (iK paths out) v=v
 | [],_,_=>rfl
 |p::ps,v,h=>by
  rw [List.foldl_cons];have:iK paths out v p=v:=by
   unfold iK;rw [if_neg];intro hc;have:yO paths p=true:=by unfold yO;exact List.any_eq_true.2 ⟨p,h p (by simp),by simp⟩
   rw [this] at hc
   cases hc.1
  rw [this];exact PA ps v (fun q hq=>h q (by simp [hq]))
theorem Yf:∀(l:List ah) {v:V},v.sound->v.k=5-> (eK l v).k=5
 | [],_,_,h=>h
 |a::r,v,hv,h=>by
  have df:=iI hv h;rw [eK]
  split
  ·exact h
  ·split
   ·exact(df.del a).k5
   ·split
    ·exact(df.del a).k5
    ·exact(df.put a _).k5
theorem PB {paths:List ah} {out:List Ow}:∀(ps:List ah) {v:V},v.sound->v.k=5-> (ps.foldl (iK paths out) v).k=5
 | [],_,_,h=>h
 |p::ps,v,hv,h=>by
  rw [List.foldl_cons];refine PB ps (JO paths out hv p).1 ?_;unfold iK
  split
  ·exact Yf _ hv h
  ·exact h
theorem PD {want:V}:∀(ps:List ah) {v:V},(∀q∈ps,q∈want.leaves)->v.sound->v.k=5-> (ps.foldl (iJ want) v).k=5
 | [],_,_,_,h=>h
 |p::ps,v,hl,hv,_=>by rw [List.foldl_cons];obtain⟨h1,h2,-⟩:=Fu hv (hl p (by simp));exact PD ps (fun q hq=>hl q (by simp [hq])) h1 h2
theorem PE {v w want:V} {q:ah}:∀(ls:List ah),lj v want q ls=false-> (∀p∈ls,∃y,bG w p=some y/\jb y ((bG want p).getD V.zero)=true)->lj w want q ls=false
 | [],_,_=>rfl
 |p::r,h,hw=>by
  rw [show lj v want q (p::r)=if(fV p q||fV q p)=true then true else if p=q then(match bG v p with|none=>true|some now=> !jb now ((bG want p).getD V.zero)) else lj v want q r from rfl] at h;rw [show lj w want q (p::r)=if(fV p q||fV q p)=true then true else if p=q then(match bG w p with|none=>true|some now=> !jb now ((bG want p).getD V.zero)) else lj w want q r from rfl]
  split at h
  ·cases h
  ·rename_i ha
   rw [if_neg ha];by_cases kJ:p=q
   ·rw [if_pos kJ]
    obtain⟨y,h1,h2⟩:=hw p (by simp);rw [h1];simp [h2]
   ·rw [if_neg kJ] at h⊢
    exact PE r h (fun p hp=>hw p (by simp [hp]))
theorem JQ {x y:V} {p:ah} (hf:x.fine=true) {r:List ah} (hr:cJ p=some r) (h:bp r x=some y):bZ x p=(y,0):=by
 unfold bZ;rw [hr];simp only;rw [if_neg (by rw [hf];simp),go_get r (gq hf) h]
theorem PF {y:V} (h:y.sound) (h5:y.k=5):∃ks l,y= .mk 5 0 ⟨#[]⟩ ks l/\ks.length=l.length:=by
 have df:=iI h h5;obtain⟨k,n,s,ks,l⟩:=y;exact⟨ks,l,by have a:=df.k5;have b:=df.n0;have c:=df.s0;simp only [V.uI,V.uJ,V.kz] at a b c;rw [a,b,c],df.len⟩
def PG (x y:V):Prop:=y=x\/ (x= .mk 5 0 ⟨#[]⟩ [] []/\∃ks l,y= .mk 5 0 ⟨#[]⟩ ks l/\0<ks.length)
theorem Yg {x y:V} (hx:x.sound) (hy:y.sound) (hxl:x.k=5->x.l= []) (h:jb y x=true):PG x y:=by
 rcases Yh h with⟨h1,h2⟩|h1
 ·obtain⟨ks,l,rfl,hl⟩:=PF hx h2
  obtain⟨js,m,rfl,hm⟩:=PF hy h1;have e:l= []:=hxl h2;subst e;obtain rfl:ks= []:=List.length_eq_zero_iff.1 hl;by_cases hj:0<js.length
  ·exact .inr ⟨rfl,js,m,rfl,hj⟩
  ·obtain rfl:js= []:=List.length_eq_zero_iff.1 (by omega)
   obtain rfl:m= []:=List.length_eq_zero_iff.1 (by rw [<-hm];rfl);exact .inl rfl
 ·exact .inl h1
theorem PH {v:V} {l:List Ow} {who:ah} {want w:V} {force:Bool} {m:List Ow} {c:List (ah×ah)} (h:ik v l who want force=(w,m,c,0)):
 p8 m who=want.leaves/\gU m=true/\w.fine=true/\ (∀p∈want.leaves,∃x y,bZ want p=(x,0)/\bZ w p=(y,0)/\PG x y/\x.size<=14640/\y.size<=14640)/\ik w m who want false=(w,m, [],0):=by
 obtain⟨hb,hc,rfl,rfl,hwf,Yi,-⟩:=CN h;obtain⟨tT,yP,qB,tU,hgl,hwho⟩:=AP hb;have CO:=Ya (v:=v) (want:=want) (who:=who) (l:=l);have yQ:=PI (v:=v) (want:=want) (who:=who) (JK hgl);obtain⟨hds,hdc⟩:=AQ want.leaves (ez v want who l) (lS who l) (gq tT);have Yj:=PB (paths:=want.leaves) (out:=ez v want who l) (lS who l) (gq tT) qB;have FC:∀p∈want.leaves,∃y,bG (eZ v l who want) p=some y/\jb y ((bG want p).getD V.zero)=true:=fun p hp=>JJ want.leaves hp (fun _ h=>h) hds;have hwk:(eZ v l who want).k=5:=PD want.leaves (fun _ h=>h) hds Yj;have Yk:p8 (fW v l who want) who=want.leaves:=X9 CO;have CK:gU (fW v l who want)=true:=by
  rw [CJ];refine⟨fun o ho=> ?_,Yc CO yQ,Yi⟩;rcases FA ho with ho|⟨rfl,hne⟩
  ·obtain⟨o',h1,h2,h3,-,h5,h6⟩:=wT ho
   obtain⟨g1,g2,g3⟩:=((CJ l).1 hgl).1 o' h1;obtain⟨g4,g5⟩:=(CI _).1 g3;refine⟨by rw [<-h2];exact g1,h5,(CI _).2 ⟨fun p hp=> ?_,?_⟩⟩
   ·rw [h6] at hp
    exact g4 p (List.mem_filter.1 hp).1
   ·rw [h6]
    exact g5.sublist List.filter_sublist
  ·exact⟨hwho,hne,X8 want⟩
 refine⟨Yk,CK,hwf,fun p hp=> ?_,?_⟩
 ·obtain⟨-,-,r,-,hn,-,-,-,x,hx,pS,hxl⟩:=qJ hp
  obtain⟨y,hy,hk⟩:=FC p hp;rw [pS,Option.getD_some] at hk;have hy2:bp r (eZ v l who want)=some y:=by unfold bG bJ at hy;rw [hn] at hy;exact hy
  have z1:=oV yP;have z2:=oV hwf;have z3:=go_size r hx;have z4:=go_size r hy2;exact⟨x,y,JQ yP hn hx,JQ hwf hn hy2,Yg (go_sound r (gq yP) hx) (go_sound r (gq hwf) hy2) hxl hk,by omega,by omega⟩
 ·have hform:p6 (eZ v l who want) (fW v l who want) who want=true:=by
   unfold p6;rw [hwf,yP,CK,hwho,decide_eq_true hwk,decide_eq_true tU];rfl
  have wU:∀o∈ez v want who l,∀q∈o.paths,eA (eZ v l who want) want q=false:=fun o ho q hq=>by obtain⟨_,-,-,-,h3,-⟩:=wT ho;exact PE want.leaves (h3 q hq).2 FC
  have FD:ja (eZ v l who want) (fW v l who want) who want= []:=by
   unfold ja;refine List.flatMap_eq_nil_iff.2 fun o ho=> ?_;unfold vg
   split
   ·rfl
   ·rename_i hne
    rw [List.map_eq_nil_iff,List.filter_eq_nil_iff];intro q hq;rcases FA ho with ho|⟨rfl,-⟩
    ·rw [wU o ho q hq];simp
    ·exact absurd rfl hne
  have hoth:ez (eZ v l who want) want who (fW v l who want)=ez v want who l:=by
   have:∀(l2:List Ow),(∀o∈l2,o∈ez v want who l)->l2.filterMap (jc fun q=> !eA (eZ v l who want) want q)=l2:=by
    intro l2
    induction l2 with
    |nil=>intro _;rfl
    |cons o r ih=>
     intro hl2;have ho:=hl2 o (by simp);obtain⟨-,-,-,-,-,hne,-⟩:=wT ho;have vh:(o.paths.filter fun q=> !eA (eZ v l who want) want q)=o.paths:=List.filter_eq_self.2 fun q hq=>by rw [wU o ho q hq];rfl
     have hk:jc (fun q=> !eA (eZ v l who want) want q) o=some o:=by unfold jc;rw [vh,if_neg hne]
     rw [List.filterMap_cons,hk,ih (fun o' ho'=>hl2 o' (by simp [ho']))]
   rw [show ez (eZ v l who want) want who (fW v l who want)=((fW v l who want).filter fun o=>decide (o.name≠who)).filterMap (jc fun q=> !eA (eZ v l who want) want q) from rfl,show fW v l who want=fK (ez v want who l) who want.leaves from rfl,Yd CO];exact this _ (fun _ h=>h)
  have hout:fW (eZ v l who want) (fW v l who want) who want=fW v l who want:=by rw [show fW (eZ v l who want) (fW v l who want) who want=fK (ez (eZ v l who want) want who (fW v l who want)) who want.leaves from rfl,hoth];rfl
  have AR:eZ (eZ v l who want) (fW v l who want) who want=eZ v l who want:=by
   rw [show eZ (eZ v l who want) (fW v l who want) who want=want.leaves.foldl (iJ want) ((lS who (fW v l who want)).foldl (iK want.leaves (ez (eZ v l who want) want who (fW v l who want))) (eZ v l who want)) from rfl,
    show lS who (fW v l who want)=want.leaves from Ye CO,PA _ _ (fun _ h=>h)]
   exact Py want.leaves (gq hwf) (fun q hq=>⟨hq,FC q hq⟩)
  unfold ik;rw [if_neg (by rw [hform];simp),if_neg (by rw [FD];simp),AR,hout,if_neg (by rw [hwf];simp;omega)]
theorem Yl (f:Ow->Bool) (l:List Ow):cw (l.filter f)<=cw l:=by
 induction l with
 |nil=>simp
 |cons o r ih=>
  unfold cw at ih⊢;rw [List.filter_cons]
  split
  ·simp only [List.map_cons,List.sum_cons];omega
  ·simp only [List.map_cons,List.sum_cons];omega
theorem PJ (f:ah->Bool) (l:List Ow):cw (l.filterMap (jc f))<=cw l:=by
 induction l with
 |nil=>simp
 |cons o r ih=>
  unfold cw at ih⊢;rw [List.filterMap_cons];have hs:=FE f o.paths;unfold jc at ih⊢;by_cases hk:o.paths.filter f= []
  ·simp only [hk,if_true,List.map_cons,List.sum_cons];omega
  ·simp only [hk,if_false,List.map_cons,List.sum_cons]
   unfold Ow.size at ih⊢;simp only;omega
theorem JR {B:Nat}:∀(l:List ah),(∀p∈l,p.size<=B)->ft l<=l.length*(B+1)
 | [],_=>by simp [ft]
 |p::r,h=>by have h1:=JR r (fun q hq=>h q (by simp [hq]));have h2:=h p (by simp);unfold ft at h1⊢;rw [List.map_cons,List.sum_cons,List.length_cons,Nat.add_mul];omega
theorem Ym (os:List Ow) (who:ah) (ps:List ah):cw (fK os who ps)<=cw os+(1+who.size+ft ps):=by
 unfold fK
 split
 ·omega
 ·have h:cw os=cw (os.take (mS os who))+cw (os.drop (mS os who)):=by
   conv=>lhs;rw [<-List.take_append_drop (mS os who) os]
   unfold cw;rw [List.map_append,List.sum_append]
  rw [h];unfold cw;rw [List.map_append,List.sum_append,List.map_cons,List.sum_cons];unfold Ow.size;simp only;omega
theorem Yn {v:V} {l:List Ow} {who:ah} {want:V} (hw:gK who=true):cw (fW v l who want)<=cw l+250000:=by
 have h1:=Ym (ez v want who l) who want.leaves;have h2:cw (ez v want who l)<=cw l:=Nat.le_trans (PJ _ _) (Yl _ _);have h3:=JR (B:=2000) want.leaves (fun p hp=>CP hp);have h4:=AU want;have h5:want.leaves.length*2001<=120*2001:=Nat.mul_le_mul_right _ h4;have h6:who.size<=12:=by unfold gK at hw;rw [Bool.and_eq_true,decide_eq_true_eq] at hw;exact hw.2
 unfold fW;omega
open Go.RowKit
attribute [local go_sem↓] Go.wp_at_zero Go.wp_at_succ
end Go.Proofs.YtlcebdaghmdkeabGreatDoor
