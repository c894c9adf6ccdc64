import Derived.Test.YtlcebdaghmdkeaaGreatDoorZ10
import Derived.Test.YtlcebdaghmdkeaaGreatDoorZ22
set_option linter.all false
set_option maxRecDepth 100000
set_option maxHeartbeats 64000000
namespace Go.Proofs.YtlcebdaghmdkeaaGreatDoor
open Go.Proofs.Tryz
open Go.RowKit
attribute [local go_sem↓] Go.wp_at_zero Go.wp_at_succ
theorem UU:∀a b:List UInt8,Lib.compareBytes a b=0↔a=b
 | [], []=>by simp [Lib.compareBytes]
 | [],_::_=>by simp [Lib.compareBytes]
 |_::_, []=>by simp [Lib.compareBytes]
 |x::a,y::b=>by
  rw [Lib.compareBytes];have ih:=UU a b;by_cases h1:x<y
  ·have h3:x≠y:=fun e=>by rw [e] at h1;exact absurd h1 (by simp)
   simp [h1,h3]
  ·by_cases h2:y<x
   ·have h3:x≠y:=fun e=>h1 (by rw [e] at h2⊢;exact h2)
    simp [h1,h2,h3]
   ·have h3:x=y:=UInt8.le_antisymm (UInt8.not_lt.1 h2) (UInt8.not_lt.1 h1)
    subst h3;simp [h1,ih]
theorem BA {w:World} {g o:Nat} {t:Th} {ka:aq} {kc:Nat} {la:aq} {lc:Nat} {oa:aq} {oc:Nat} (h:∀q u,(t.cells ka kc la lc oa oc)[q]? =some u->w.cell? ⟨g,o+q,none⟩=some u/\w.frozen? ⟨g,o+q,none⟩=false):
 w.cell? ⟨g,o,none⟩=some (.string t.name)/\w.cell? ⟨g,o+1,none⟩=some (.int .i64 t.v.k)/\w.cell? ⟨g,o+2,none⟩=some (.int .i64 t.v.n)/\w.cell? ⟨g,o+3,none⟩=some (.string t.v.s)/\w.cell? ⟨g,o+4,none⟩=some (.slice ka t.v.keys.length kc)/\
 w.cell? ⟨g,o+5,none⟩=some (.slice la t.v.l.length lc)/\w.cell? ⟨g,o+6,none⟩=some (.slice oa t.ows.length oc)/\w.cell? ⟨g,o+7,none⟩=some (.int .i64 t.ver)/\w.cell? ⟨g,o+8,none⟩=some (.int .i64 t.gen)/\w.cell? ⟨g,o+9,none⟩=some (.string t.st.sb)/\
 w.cell? ⟨g,o+10,none⟩=some (.string t.st.cm)/\w.cell? ⟨g,o+11,none⟩=some (.int .i64 t.st.ph)/\w.cell? ⟨g,o+12,none⟩=some (.int .i64 t.st.sp)/\w.cell? ⟨g,o+13,none⟩=some (.int .i64 t.st.wt)/\w.cell? ⟨g,o+14,none⟩=some (.int .i64 t.st.si):=
 ⟨(h 0 _ rfl).1,(h 1 _ rfl).1,(h 2 _ rfl).1,(h 3 _ rfl).1,(h 4 _ rfl).1,(h 5 _ rfl).1,(h 6 _ rfl).1,(h 7 _ rfl).1,(h 8 _ rfl).1,(h 9 _ rfl).1,(h 10 _ rfl).1,(h 11 _ rfl).1,(h 12 _ rfl).1,(h 13 _ rfl).1,(h 14 _ rfl).1⟩
theorem NA (t:Th) (ka:aq) (kc:Nat) (la:aq) (lc:Nat) (oa:aq) (oc:Nat) (name:ah) (w:World):
 Calls prog 43 #[.agg #[.string t.name, .int .i64 t.v.k, .int .i64 t.v.n, .string t.v.s, .slice ka t.v.keys.length kc, .slice la t.v.l.length lc, .slice oa t.ows.length oc, .int .i64 t.ver, .int .i64 t.gen, .string t.st.sb, .string t.st.cm, .int .i64 t.st.ph, .int .i64 t.st.sp, .int .i64 t.st.wt, .int .i64 t.st.si], .string name] w fun e w'=>e= .returned (.int .i64 (Lib.compareBytes t.name.data.toList name.data.toList))/\Ext w w':=by
 go_enter func43,ntmps43;go_wp2_with fail;(refine(Tryz.strings_Compare t.name name _).mono ?_);rintro e w1 ⟨rfl,rfl⟩;go_wp2_with fail;go_ret;exact⟨rfl,Xt⟩
theorem ae5 {l:List Th} {name:ah} (h:eO l name<l.length):fL l name=(Lib.compareBytes (l[eO l name]).name.data.toList name.data.toList==0):=by
 unfold fL hasB;rw [show posOf (l.map Th.name) name=eO l name from rfl,List.getElem?_eq_getElem (by simpa using h),List.getElem_map];have:=UU (l[eO l name]).name.data.toList name.data.toList;rw [Bool.eq_iff_iff,beq_iff_eq,this];simp [ByteArray.toList_eq]
theorem UJ {l:List Th} {name:ah} (h:¬eO l name<l.length):fL l name=false:=by
 unfold fL hasB;rw [show posOf (l.map Th.name) name=eO l name from rfl,List.getElem?_eq_none (by simpa using h)]
theorem ae6 (P:aA) (r:Nat) (s:Sv) (v:Value) (xs:List Value) (name:ah) (w:World) (gF:ez w P r s v xs) (hbig:s.ay.length<=1073741824) (hr:cn (s.ay.map Th.name)):
 Calls prog 42 #[v, .string name, .func (.func 43) #[] #[]] w fun e w'=>e= .returned (.tuple #[.int .i64 (eO s.ay name), .bool (fL s.ay name)])/\Ext w w':=by
 have fk:=ae gF
 have Az:=ae (show∀i t (hi:i<s.ay.length) (h:t<s.ay.length) (hst:i<=t),bB (s.ay[t]).name name=true->bB (s.ay[i]).name name=true from fun i t hi h hst hl=>by
  by_cases e:i=t
  ·subst e;exact hl
  ·have:=Av hr (i:=i) (j:=t) (by simp;omega) (by simpa using h) (by omega)
   simp only [List.getElem_map] at this
   exact uU this hl)
 obtain⟨a,c,hv⟩:=gU gF.own;obtain⟨l,hl⟩:∃l,s.ay=l:=⟨_,rfl⟩;have hv:=hv.1;clear gF hr;subst hv;rw [hl] at hbig⊢
 have jP:=ae (show∀w',Ext w w'->∀k (hk:k<l.length),∃g,a=some ⟨g,0,none⟩/\∃ka kc la lc oa oc,∀q u,((l[k]).cells ka kc la lc oa oc)[q]? =some u->w'.cell? ⟨g,k*15+q,none⟩=some u/\w'.frozen? ⟨g,k*15+q,none⟩=false from fun w' e k hk=>by
  subst hl;obtain⟨g,c2,ka,kc,la,lc,oa,oc,h1,-,-,-,-,h2,-⟩:=(fk.out.ext e).thing hk;simp only [Value.slice.injEq] at h1
  exact⟨g,h1.1,ka,kc,la,lc,oa,oc,h2⟩)
 rw [hl] at Az;clear fk hl;go_enter func42,ntmps42;go_wp2_with fail
 go_loopg [9,10] l.length (fun gg s9 CN wr=>∃lo hi:Nat,s9= .int .i64 lo/\CN= .int .i64 hi/\lo<=hi/\hi<=l.length/\hi-lo<=gg/\ (∀t (h:t<l.length),t<lo->bB (l[t]).name name=true)/\ (∀t (h:t<l.length),hi<=t->bB (l[t]).name name=false)/\Ext w wr)
 case atStart=>exact⟨0,l.length,rfl,rfl,Nat.zero_le _,Nat.le_refl _,by omega,fun t h h0=>absurd h0 (Nat.not_lt_zero _),fun t h h0=>by omega,Xt⟩
 case round=>
  obtain⟨lo,hi,rfl,rfl,J1,hin,hgg,h1,h2,hx⟩:=hrel;have H1:=ae h1;have H2:=ae h2;clear h1 h2;by_cases hlt:lo<hi
  ·have hmid:(lo+hi)/2<l.length:=by omega
   obtain⟨g,rfl,ka,kc,la,lc,oa,oc,hcs⟩:=jP.out _ hx _ hmid;have hm0:(0:Int)<= ((lo:Int)+(hi:Int))/2:=by omega
   have yo:((lo:Int)+(hi:Int))/2<(l.length:Int):=by omega
   have Yi:(((lo:Int)+(hi:Int))/2).toNat=(lo+hi)/2:=by omega
   have yD:=ae (show bB (l[(lo+hi)/2]).name name=true↔Lib.compareBytes (l[(lo+hi)/2]).name.data.toList name.data.toList<0 by unfold bB;rw [ByteArray.toList_eq,ByteArray.toList_eq];exact(JZ _ _).symm);obtain⟨d0,d1,d2,d3,d4,d5,d6,d7,d8,d9,d10,d11,d12,d13,d14⟩:=BA hcs;clear hcs;by_cases hcm:Lib.compareBytes (l[(lo+hi)/2]).name.data.toList name.data.toList<0
   ·have Hl:=ae (yD.out.2 hcm)
    go_wp2_with fail;(refine(NA l[(lo+hi)/2] ka kc la lc oa oc name _).mono ?_);rintro e w2 ⟨rfl,h2⟩;go_wp2_with fail;go_roundg (hi-((lo+hi)/2+1))
    case measure=>omega
    case rel=>exact⟨(lo+hi)/2+1,hi,by go_num,rfl,by omega,hin,Nat.le_refl _,fun t h ht=>Az.out t _ h hmid (by omega) Hl.out,H2.out,Xt⟩
   ·have Hl:=ae (show bB (l[(lo+hi)/2]).name name=false by
     cases hb:bB (l[(lo+hi)/2]).name name with
     |false=>rfl
     |true=>exact absurd (yD.out.1 hb) hcm)
    go_wp2_with fail;(refine(NA l[(lo+hi)/2] ka kc la lc oa oc name _).mono ?_);rintro e w2 ⟨rfl,h2⟩;go_wp2_with fail;go_roundg ((lo+hi)/2-lo)
    case measure=>omega
    case rel=>exact⟨lo,(lo+hi)/2,rfl,by go_num,by omega,by omega,Nat.le_refl _,H1.out,(fun t h ht=>by
     cases hb:bB (l[t]).name name with
     |false=>rfl
     |true=>have:=Az.out _ t hmid h ht hb;rw [Hl.out] at this;cases this),Xt⟩
  ·obtain rfl:hi=lo:=by omega
   have hpos:hi=eO l name:=FM (ks:=l.map Th.name) (by simpa using hin) (fun i h=>by simp only [List.getElem_map];exact H1.out i (by omega) h) (fun h=>by simp only [List.getElem_map];exact H2.out hi (by simpa using h) (Nat.le_refl _));have yE:=ae hpos;clear hpos;by_cases hend:hi<l.length
   ·have J2:(hi:Int)<(l.length:Int):=by omega
    obtain⟨g,rfl,ka,kc,la,lc,oa,oc,hcs⟩:=jP.out _ hx _ hend
    have Hb:=ae (show fL l name=(Lib.compareBytes (l[hi]).name.data.toList name.data.toList==0) by
     have h1:=yE.out;subst h1
     exact ae5 hend)
    obtain⟨d0,d1,d2,d3,d4,d5,d6,d7,d8,d9,d10,d11,d12,d13,d14⟩:=BA hcs;clear hcs;go_wp2_with fail;(refine(NA l[hi] ka kc la lc oa oc name _).mono ?_);rintro e w2 ⟨rfl,h2⟩;go_wp2_with fail;go_ret2;rw [<-yE.out,Hb.out];exact⟨rfl,Xt⟩
   ·have J2:¬(hi:Int)<(l.length:Int):=by omega
    have Hb:=ae (show fL l name=false from UJ (by rw [<-yE.out];exact hend));go_wp2_with fail;go_ret2;rw [<-yE.out,Hb.out];exact⟨rfl,Xt⟩
theorem aeZ (P:aA) (r:Nat) (s:Sv) (name:ah) (w:World) (gF:Sat w P r s) (hbig:s.ay.length<=1073741824) (hr:cn (s.ay.map Th.name)):
 Calls prog 29 #[.pointer (some ⟨r,0,none⟩), .string name] w fun e w'=>e= .returned (.tuple #[.int .i64 (eO s.ay name), .bool (fL s.ay name)])/\Ext w w':=by
 have uO:∀(fn:Fn) (first cap:Array Value) (w:World),(Instr.makeFunc fn first cap).run prog w= .ok (.func fn first cap) w:=fun _ _ _ _=>rfl;obtain⟨v,xs,h⟩:=gF;have ag:=h.box;have fk:=ae h;have Hr:=ae hr;clear h hr;obtain⟨hc0,aw,hl0⟩:=ag.see;go_enter func29,ntmps29;go_wp2_with fail;(refine(ae6 P r s v xs name _ (fk.out.ext Xt) hbig Hr.out).mono ?_);rintro e w1 ⟨rfl,h1⟩;go_wp2_with fail;go_ret2;exact⟨rfl,Xt⟩
def lZ (w:World) (base:Nat) (T:aA) (v:Value) (n:Nat) (l:List bM):Prop:=
 l.length=n/\∃xs,w.ownsRow base 146 8 v n xs/\pS w (fun b=>T b/\v.ownBlock≠some b) l xs
theorem lZ.nil (w:World) (base:Nat) (T:aA):lZ w base T (.slice none 0 0) 0 []:=⟨rfl, [],World.ownsRow_nil _ _ _ _,rfl⟩
theorem lZ.ext {w w':World} {base:Nat} {T:aA} {v:Value} {n:Nat} {l:List bM} (h:lZ w base T v n l) (e:Ext w w'):lZ w' base T v n l:=by
 obtain⟨h0,xs,h1,h2⟩:=h;exact⟨h0,xs,eT h1 e,h2.keep (e.kept _) (fun _ h _=>h)⟩
theorem lZ.held {w w':World} {base:Nat} {T:aA} {v:Value} {n:Nat} {l:List bM} (h:lZ w base T v n l) (e:Held (fun b=>b<w.heap.size) w w'):lZ w' base T v n l:=by
 obtain⟨h0,xs,h1,h2⟩:=h;exact⟨h0,xs,eo h1 (fun b hb _=>e.block b hb hb),h2.keep (fun b _ hl=>e.block b hl hl) (fun _ h _=>h)⟩
theorem pS.snoc {w:World} {T:aA} {l:List bM} {xs:List Value} (h:pS w T l xs) {x:bM} {ka:aq} {kc:Nat} {la:aq} {lc:Nat} (hx:x.v.In w T ka kc la lc):pS w T (l++ [x]) (xs++x.eight ka kc la lc):=by
 induction l generalizing xs with
 |nil=>subst h;exact⟨ka,kc,la,lc, [],by simp,hx,rfl⟩
 |cons y r ih=>
  obtain⟨a,b,c,d,t,rfl,h1,h2⟩:=h;exact⟨a,b,c,d,_,by rw [List.append_assoc],h1,ih h2⟩
theorem lZ.form {w:World} {base:Nat} {T:aA} {v:Value} {n:Nat} {l:List bM} (h:lZ w base T v n l):∃a c,v= .slice a n c/\aO a n c:=by
 obtain⟨-,xs,h1,-⟩:=h;exact gU h1
theorem lZ.ops {w:World} {base n c:Nat} {T U:aA} {a:aq} {l:List bM} (h:lZ w base T (.slice a n c) n l) (h1:∀b,T b->U b) (h2:∀b,base<=b->U b):pg w U a l:=by
 obtain⟨h0,xs,h3,h4⟩:=h;exact(Xu h0 h3 h4).mono fun b h=>h.elim (fun h=>h1 b h.1) (h2 b)
theorem bM.adq (o:bM) (ka:aq) (kc:Nat) (la:aq) (lc:Nat):∀u∈o.eight ka kc la lc,u.oneCell'=true:=by
 intro u hu;simp only [bM.eight,List.mem_cons,List.not_mem_nil,or_false] at hu;rcases hu with rfl|rfl|rfl|rfl|rfl|rfl|rfl|rfl<;>rfl
theorem adr {wr W:World} {ops:Array Oper} {rest:List Oper} {o:Oper} {a:Act} {Q:Exit->Act->World->Prop} {base n:Nat} {T:aA} {vl:Value} {l:List bM} {x:bM} {ka:aq} {kc:Nat} {la:aq} {lc:Nat} (hgd:o.guard=none) (B:Nat) {s t:Operand}
 (ho:o.op= .call {callee:= .builtin .append,args:= #[s,t],argTypes:= #[104,104]}) (hs:a.eval s=vl) (hx:a.eval t= .slice (some ⟨B,0,none⟩) 1 1)
 (hI:lZ wr base T vl n l) (e:Ext wr W) (hv:x.v.In W (fun b=>T b/\vl.ownBlock≠some b) ka kc la lc) (hB:af W B (x.eight ka kc la lc).toArray 146) (hn:n<=1073741824) (hbase:base<=wr.heap.size)
 (h:∀g cap w',lZ w' base T (.slice (some ⟨g,0,none⟩) (n+1) cap) (n+1) (l++ [x])->W.grownBy w' vl.ownBlock->Held (fun b=>b<base) W w'->wpList prog ops Q rest (a.put o.dst (.slice (some ⟨g,0,none⟩) (n+1) cap)) w'):wpList prog ops Q (o::rest) a W:=by
 obtain⟨j0,hj,hy0,hy1,hy2⟩:=info_parts Tryz.Xr;obtain⟨hl0,xs,qC,wN⟩:=hI;refine wpList_plain hgd fun _ hK=>wp_append_lies _ s t _ ho base 146 j0 _ 8 120 underlying104 hj hy0 hy1 hy2 rfl (by decide) vl n xs hs (eT qC e) ⟨B,0,none⟩ 1 1 (x.eight ka kc la lc) hx (by rfl) (World.news_of_block (cs:=(x.eight ka kc la lc).toArray) (t:=146) (fr:=(0,0)) hB) (bM.adq x ka kc la lc) (by omega) (by unfold maxLen;omega) (by omega) (Nat.le_trans hbase e.size) _ rfl ?_;intro g cap w' hown hgrow hat hlt;have hk:∀b,(T b/\vl.ownBlock≠some b)->b<W.heap.size->w'.heap[b]? =W.heap[b]? :=fun b hb hl=>hgrow.block b hl (fun he=>hb.2 he.symm)
 have hT:∀b,(T b/\vl.ownBlock≠some b)->b<W.heap.size-> (T b/\ (Value.slice (some ⟨g,0,none⟩) (n+1) cap).ownBlock≠some b):=fun b hb hl=>⟨hb.1,fun he=>by
  have hg:g=b:=by simpa [Value.ownBlock] using he
  subst hg;rcases hat with hat|hat
  ·exact hb.2 hat
  ·omega⟩
 refine hK _ _ (h g cap w' ⟨by simp [hl0],_,hown,?_⟩ hgrow (Held.grown (Held.refl _ _) hgrow (fun q hq hT=>by have:=(qC.lt q hq).1;omega)));exact((wN.keep (e.kept _) (fun _ h _=>h)).keep hk hT).snoc (hv.keep hk hT)
theorem ads (x:V) (ka:aq) (kc:Nat) (la:aq) (lc:Nat) (S:aA) (w:World) (hsz:x.size<=1073741824) (eG:rC w) (hin:x.In w S ka kc la lc):
 Calls prog 51 #[x.val ka kc la lc] w fun e w'=>∃a n c,e= .returned (.tuple #[.slice a n c, .int .i64 (jW x).2])/\ (jW x).1.length=n/\aO a n c/\pg w' (aW S w) a (jW x).1/\Ext w w':=by
 have aJ:=ae (show x.In w (fun q=>S q/\q<w.heap.size) ka kc la lc from hin.mono fun b h h'=>⟨h,h'⟩);have jf:=ae eG;have hll:=x.kI;clear hin eG
 cases hf:x.fine with
 |false=>
  have Hf:=ae hf;have Hr:=ae (T3 (v:=x) (.inl hf));clear hf;go_enter func51,ntmps51;go_wp2_with fail;(refine(df x ka kc la lc _ _ hsz (aJ.out.ext Xt)).mono ?_);rw [Hf.out];rintro e w1 ⟨rfl,h1⟩;have hx1:Ext w w1:=Xt;clear h1;go_wp2_with fail;go_ret2;rw [Hr.out];exact⟨none,0,0,rfl,rfl,aO.nil, .inl rfl,Xt⟩
 |true=>
  have Hf:=ae hf;by_cases h4:x.k=4
  ·have DU:(x.k !=4)=false:=by simpa using h4
   have H4:=ae h4;by_cases h20:20<x.l.length
   ·have La:(20:Int)<(x.l.length:Int):=by omega
    have Hr:=ae (adn hf h4 h20);clear hf h4 h20;go_enter func51,ntmps51;go_upto_region 1 with fail
    refine aI (R:=fun wx=>aD wx w.heap.size x ka kc la lc/\Ext w wx) ⟨aj,Xt⟩ ?_;rintro wa ⟨ag,aF⟩;obtain⟨hc0,aw,hl0⟩:=ag.see;go_wp2_with fail;(refine(df x ka kc la lc _ _ hsz (aJ.out.ext Xt)).mono ?_);rw [Hf.out];rintro e w1 ⟨rfl,h1⟩;have ag:=af.ext (w':=w1) Xt ag;have hx1:Ext w w1:=Xt;clear h1 aF hc0 aw hl0;obtain⟨hc0,aw,hl0⟩:=ag.see;go_wp2_with fail;go_ret2;rw [Hr.out];exact⟨none,0,0,rfl,rfl,aO.nil, .inl rfl,Xt⟩
   ·have La:¬(20:Int)<(x.l.length:Int):=by omega
    have T4:=ae h20;have rP:x.l.length<=20:=by omega
    clear hf h4 h20;go_enter func51,ntmps51;go_upto_region 1 with fail
    refine aI (R:=fun wx=>aD wx w.heap.size x ka kc la lc/\Ext w wx) ⟨aj,Xt⟩ ?_;rintro wa ⟨ag,aF⟩;obtain⟨hc0,aw,hl0⟩:=ag.see;go_wp2_with fail;(refine(df x ka kc la lc _ _ hsz (aJ.out.ext Xt)).mono ?_);rw [Hf.out];rintro e w1 ⟨rfl,h1⟩;have ag:=af.ext (w':=w1) Xt ag;have hx1:Ext w w1:=Xt;have hz1:=ag.lt;clear h1 aF hc0 aw hl0;obtain⟨hc0,aw,hl0⟩:=ag.see;go_wp2_with fail;clear hc0 aw hl0 ag
    go_loopg [4,6,7,8,24] x.l.length (fun g t4 _ _ _ i wr=>∃(k:Nat) (os:List bM) (a3:aq) (c3:Nat),k<=x.l.length/\i= .int .i64 k/\g=x.l.length-k/\t4= .slice a3 k c3/\Hid (lZ wr w1.heap.size (aW S w) (.slice a3 k c3) k os)/\Hid (nL (x.l.take k)=some os)/\Ext w wr/\w1.heap.size<=wr.heap.size)
    case atStart=>exact⟨0, [],none,0,by omega,rfl,rfl,rfl,ae (lZ.nil _ _ _),ae rfl,hx1,by omega⟩
    case round=>
     clear hx1;obtain⟨k,os,a3,c3,hk,rfl,rfl,rfl,HO,kM,hx,uJ⟩:=hrel;by_cases hlt:k<x.l.length
     ·obtain⟨bq,oq,rfl,hSq,iC,iD,jc,iE,⟨d0,d1,d2,d3,d4⟩,hin'⟩:=aJ.out.item hlt
      have d0:=hx.cell d0;have d1:=hx.cell d1;have d2:=hx.cell d2;have d3:=hx.cell d3;have d4:=hx.cell d4;have mh:(0:Int)<= (k:Int):=by omega
      have ml:(k:Int)<(x.l.length:Int):=by omega
      have A4:=ae hin';have cP:=V.qi hlt;have rB:=ae (fun h:x.l[k].iT=none=>ado Hf.out H4.out T4.out hlt h);have rO:=ae (fun(o:bM) (h:x.l[k].iT=some o)=>adl hlt kM.out h);clear hin';go_upto_region 9 with fail
      refine aI (R:=fun wx=>lZ wx w1.heap.size (aW S w) (.slice a3 k c3) k os/\af wx wr.heap.size #[.int .i64 x.l[k].k, .int .i64 x.l[k].n, .string x.l[k].s, .slice iC x.l[k].keys.length iD, .slice jc x.l[k].l.length iE] 41/\Ext w wx/\w1.heap.size<=wx.heap.size) ⟨HO.out.ext Xt,aj,Xt,by simp;omega⟩ ?_;clear HO hx d0 d1 d2 d3 d4 uJ;rintro wb ⟨hO,T5,hx,hzb⟩;have HO:=ae hO;clear hO;obtain⟨hcq,hfq,hlq⟩:=T5.see;go_wp2_with fail;(refine(adg x.l[k] iC iD jc iE (fun q=>S q/\q<w.heap.size) _ (by omega) (jf.out.ext Xt) (A4.out.ext Xt)).mono ?_);rintro e w2 ⟨o,kb,kd,lb,ld,ob,rfl,Ed,heq,h2⟩;have xu:=ae heq;have hy2:Ext wb w2:=Xt;have hx2:=hx.trans hy2;have hz2:=hy2.size;have hOb:=HO;have HO:=ae (HO.out.ext hy2)
      have Ee:=ae (show o.v.In w2 (fun b=>aW S w b/\ (Value.slice a3 k c3).ownBlock≠some b) kb kd lb ld from Ed.mono fun b h hl=>⟨by rcases h with h|h;exact .inl h.1;exact .inr (by(try simp at h);omega),fun he=>by
       have h5:=HO.out;obtain⟨-,xs,h6,-⟩:=h5;have h7:=h6.lt b he;rcases h with h|h
       ·omega
       ·have h8:=he
        obtain⟨-,ys,h9,-⟩:=hOb.out;have h10:=(h9.lt b he).2;(try simp at h)
        omega⟩)
      clear h2 Ed heq hx hcq hfq hlq T5
      cases ob with
      |false=>
       have Hr:=ae (rB.out (by rw [xu.out];rfl));go_wp2_with fail;go_ret2;rw [Hr.out];exact⟨none,0,0,rfl,rfl,aO.nil, .inl rfl,Xt⟩
      |true=>
       have Hn:=ae (rO.out o (by rw [xu.out];rfl));go_upto_region 12 with fail
       refine aI (R:=fun wx=>lZ wx w1.heap.size (aW S w) (.slice a3 k c3) k os/\af wx w2.heap.size #[.int .i64 o.k, .string o.p, .string o.f, .int .i64 (o.v).k, .int .i64 (o.v).n, .string (o.v).s, .slice kb (o.v).keys.length kd, .slice lb (o.v).l.length ld] 146/\o.v.In wx (fun b=>aW S w b/\ (Value.slice a3 k c3).ownBlock≠some b) kb kd lb ld/\Ext w wx/\w1.heap.size<=wx.heap.size) ⟨HO.out.ext Xt,aj,Ee.out.ext Xt,Xt,by simp;omega⟩ ?_;clear HO Ee hx2 hy2 hz2 hzb;rintro wc ⟨hO,hBo,Ed,hx,rN⟩;have HO:=ae hO;have Ee:=ae Ed;clear hO Ed;obtain⟨hco,hfo,hlo⟩:=hBo.see;go_upto_region 13 with(at_builtin;refine adr (by rfl) wc.heap.size (by rfl) (by rfl) (by rfl) HO.out Xt (Ee.out.ext Xt) aj (by omega) rN ?_;intro g3 Bb w3 lH jU B6)
       have hx3:Ext w w3:=Ext.grown (Ext.trans hx (show Ext wc _ from Xt)) jU (fun q hq=>by obtain⟨-,xs,h1,-⟩:=HO.out;have:=(h1.lt q hq).1;omega);have hz3:=B6.size;clear jU B6 HO Ee;go_wp2_with fail;go_roundg (x.l.length-(k+1))
       case measure=>omega
       case rel=>exact⟨k+1,_,_,_,by omega,by go_num,rfl,rfl,ae lH,Hn,hx3,by first|omega|(simp at hz3;omega)⟩
     ·obtain rfl:k=x.l.length:=by omega
      have Hr:=ae (adp Hf.out H4.out T4.out kM.out);have hl0:=HO.out.1;obtain⟨a6,c6,T6,gT⟩:=HO.out.form;simp only [Value.slice.injEq,true_and] at T6;obtain⟨rfl,rfl⟩:=T6;have DB:=ae (HO.out.ops (U:=aW S w) (fun _ h=>h) (fun b h=> .inr (by omega)));have Mz:=ae hl0;have MV:=ae gT;clear hl0 gT HO;go_wp2_with fail;go_ret2;rw [Hr.out];exact⟨a3,_,c3,rfl,Mz.out,MV.out,DB.out.ext Xt,Xt⟩
  ·have DU:(x.k !=4)=true:=by simpa using h4
   have Hr:=ae (T3 (v:=x) (.inr h4));clear hf h4;go_enter func51,ntmps51;go_upto_region 1 with fail
   refine aI (R:=fun wx=>aD wx w.heap.size x ka kc la lc/\Ext w wx) ⟨aj,Xt⟩ ?_;rintro wa ⟨ag,aF⟩;obtain⟨hc0,aw,hl0⟩:=ag.see;go_wp2_with fail;(refine(df x ka kc la lc _ _ hsz (aJ.out.ext Xt)).mono ?_);rw [Hf.out];rintro e w1 ⟨rfl,h1⟩;have ag:=af.ext (w':=w1) Xt ag;have hx1:Ext w w1:=Xt;clear h1 aF hc0 aw hl0;obtain⟨hc0,aw,hl0⟩:=ag.see;go_wp2_with fail;go_ret2;rw [Hr.out];exact⟨none,0,0,rfl,rfl,aO.nil, .inl rfl,Xt⟩
abbrev Rp.val (x:Rp):Value:= .agg #[.int .i64 x.c, .int .i64 x.n, .string x.b]
def IB (P:aA) (r:Nat) (x:Sv×Rp) (w:World) (e:Ending) (w':World):Prop:=
 e= .returned x.2.val/\Sat w' (aW P w) r x.1/\aU (fun b=>¬P b) w w'
theorem aW.old {P:aA} {w:World}:∀b,P b->aW P w b:=fun _ h=> .inl h
theorem Kept.of {T:aA} {w w':World} {P:aA} {r:Nat} {s:Sv} {v:Value} {xs:List Value} (h:ez w P r s v xs) (e:Ext w w'):Sat w' (aW P w) r s:=⟨v,xs,(h.ext e).mono aW.old⟩
theorem IP {w w':World} {g o:Nat} {cs:List Value} (h:∀q u,cs[q]? =some u->w.cell? ⟨g,o+q,none⟩=some u/\w.frozen? ⟨g,o+q,none⟩=false) (e:Ext w w'):∀q u,cs[q]? =some u->w'.cell? ⟨g,o+q,none⟩=some u/\w'.frozen? ⟨g,o+q,none⟩=false:=
 fun q u hq=>⟨e.cell (h q u hq).1,by rw [Below.frozen (p:=⟨g,o+q,none⟩) e (lu (h q u hq).1)];exact(h q u hq).2⟩
theorem Vk:∀ {l:List V} {xs:List (Int×Int)},nN l=some xs->xs.length=l.length
 | [],xs,h=>by cases h;rfl
 |x::r,xs,h=>by
  rw [nN] at h
  split at h
  ·rename_i p l hp hl
   cases h
   simp [Vk hl]
  ·cases h
theorem IK (x:V):(fK (cy x)).length<=8:=by
 unfold cy
 split
 ·split
  ·simp [fK]
  ·split
   ·split
    ·simp [fK]
    ·split
     ·rename_i h
      split
      ·rename_i hs
       have:=Vk hs;simp only [fK];omega
      ·simp [fK]
     ·simp [fK]
   ·simp [fK]
 ·simp [fK]
theorem fU.status {w:World} {T:aA} {l:List Th} {xs:List Value} (h:fU w T l xs) {k:Nat} (hk:k<l.length) (x:St):
 fU w T (l.set k {l[k] with st:=x}) (xs.take (k*15+9)++ [.string x.sb, .string x.cm, .int .i64 x.ph, .int .i64 x.sp, .int .i64 x.wt, .int .i64 x.si]++xs.drop (k*15+9+6)):=by
 obtain⟨h1,h2⟩:=h.cut k;rw [List.drop_eq_getElem_cons hk] at h2;obtain⟨ka,kc,la,lc,oa,oc,t,hB,hti,hr⟩:=h2;rw [List.set_eq_take_append_cons_drop,if_pos hk];have:=h1.app (m:= {l[k] with st:=x}::l.drop (k+1)) ⟨ka,kc,la,lc,oa,oc,t,rfl,⟨hti.v,hti.ok,hti.ows⟩,hr⟩;have e15:xs.drop (k*15+9+6)=t:=by rw [show k*15+9+6=k*15+15 by omega,<-List.drop_drop,hB];exact List.drop_left' (Th.xH ..)
 rw [List.take_add,hB,e15];simpa [Th.cells] using this
theorem ez.status {w w':World} {P:aA} {r g c:Nat} {s:Sv} {xs:List Value} (h:ez w P r s (.slice (some ⟨g,0,none⟩) s.ay.length c) xs) (hx:Ext w w') {k:Nat} (hk:k<s.ay.length) (x:St):
 ez (w'.setCells g (k*15+9) [.string x.sb, .string x.cm, .int .i64 x.ph, .int .i64 x.sp, .int .i64 x.wt, .int .i64 x.si]) P r {s with ay:=s.ay.set k {s.ay[k] with st:=x}} (.slice (some ⟨g,0,none⟩) s.ay.length c) (xs.take (k*15+9)++ [.string x.sb, .string x.cm, .int .i64 x.ph, .int .i64 x.sp, .int .i64 x.wt, .int .i64 x.si]++xs.drop (k*15+9+6)):=by
 have h:=h.ext hx;have hrow:=h.row g rfl;refine⟨h.box.nG (fun e=>hrow.2 e.symm) _ _,h.pr,?_,h.row,?_⟩
 ·have:=IJ (o:=k*15+9) (cs:= [.string x.sb, .string x.cm, .int .i64 x.ph, .int .i64 x.sp, .int .i64 x.wt, .int .i64 x.si]) h.own (by simp only [List.length_cons,List.length_nil];omega)
  simpa using this
 ·refine((h.cells.keep ?_ (fun _ h _=>h)).status hk x)
  exact Held.kept (Held.kA (Held.refl _ _) (fun hb=>hb.2.2 rfl) _ _)
theorem St.afg (x:St):∀u∈ ([.string x.sb, .string x.cm, .int .i64 x.ph, .int .i64 x.sp, .int .i64 x.wt, .int .i64 x.si]:List Value),u.oneCell'=true:=by
 intro u hu;simp only [List.mem_cons,List.not_mem_nil,or_false] at hu;rcases hu with rfl|rfl|rfl|rfl|rfl|rfl<;>rfl
theorem UK (P:aA) (r:Nat) (s:Sv) (k:Nat) (t:Th) (o:Int) (w:World) (gF:Sat w P r s) (hk:k<s.ay.length) (ht:s.ay[k]=t) (hz:t.v.size<=1073741824) (hb:s.ay.length<=1073741824):
 Calls prog 32 #[.pointer (some ⟨r,0,none⟩), .int .i64 k, .int .i64 o] w (IB P r (xC s k t o) w):=by
 obtain⟨v,xs,h⟩:=gF;obtain⟨g,c,ka,kc,la,lc,oa,oc,rfl,hg,hgr,vN,hnc,hcs,hti⟩:=h.thing hk;rw [ht] at hcs hti;have ag:=h.box;have hlr:=ag.lt;have fk:=ae h;have aJ:=ae hti.v;have HX:=ae (fun q u hq=>(hcs q u hq).2);have Ht:=ae ht;have zE:=ae vN;obtain⟨sp,hsp⟩:∃sp,cy t.v=sp:=⟨_,rfl⟩;obtain⟨⟨x,er⟩,hn⟩:∃n,eI (kC sp) (fK sp) t.st s.time o=n:=⟨_,rfl⟩;have Hn:=ae hn;have q7:=ae hsp
 have ig:=ae (show xC s k t o=if er≠0 then(s, .no er) else({s with ay:=s.ay.set k {t with st:=x}}, .num x.ph) by
  unfold xC Th.ord Th.next
  rw [hsp,hn];by_cases h0:er=0
  ·subst h0;simp
  ·simp [h0])
 have hxl:(fK sp).length<=9223372036854775807:=by have:=IK t.v;rw [hsp] at this;omega
 have Hc:=ae hcs;have iQ:=ag;clear h hcs hti ht hn hsp vN ag;go_enter func32,ntmps32;go_upto_region 1 with fail
 refine aI (R:=fun wx=>jm wx w.heap.size/\Ext w wx) ⟨aj,Xt⟩ ?_;rintro wa ⟨ai,aF⟩;obtain⟨d0,d1,d2,d3,d4,d5,d6,d7,d8,d9,d10,d11,d12,d13,d14⟩:=BA (IP Hc.out aF);have ag:=af.ext aF iQ;obtain⟨hc0,aw,hl0⟩:=ag.see;have hz1:=ai.lt;go_wp2_with fail;(refine(Iz t.v ka kc la lc _ _ hz (aJ.out.ext Xt)).mono ?_);rintro e w1 hR;rw [q7.out] at hR;obtain⟨a1,n1,c1,rfl,az,lY,-,h1⟩:=uo.val hR;have hz2:=h1.size;have hx1:Ext w w1:=Xt;have ai:=af.ext h1 ai;clear hR d0 d1 d2 d3 d4 d5 d6 d7 d8 d9 d10 d11 d12 d13 d14 ag hc0 aw hl0;go_upto_region 3 with fail
 refine aI (R:=fun wx=>jm wx w.heap.size/\af wx w1.heap.size #[.string (kC sp), .slice a1 n1 c1] 53/\StepsIn wx a1 (fK sp)/\Ext w wx) ⟨aj,aj,lY.ext Xt,Xt⟩ ?_;clear ai lY h1 hx1 aF;rintro wb ⟨ai,ak,hst,aP⟩;have hz3:=ak.lt;obtain⟨d0,d1,d2,d3,d4,d5,d6,d7,d8,d9,d10,d11,d12,d13,d14⟩:=BA (IP Hc.out aP);have ag:=af.ext aP iQ;obtain⟨hc0,aw,hl0⟩:=ag.see
 go_cut [10,11] (fun CN s11 wx=>∃b,CN= .pointer (some ⟨b,0,none⟩)/\s11= .int .i64 er/\af wx b #[.string x.sb, .string x.cm, .int .i64 x.ph, .int .i64 x.sp, .int .i64 x.wt, .int .i64 x.si] 44/\w.heap.size<b/\jm wx w.heap.size/\Ext w wx)
 case first=>
  have au:∀w',Ext wb w'-> (w'.cell? ⟨w1.heap.size,0,none⟩=some (.string (kC sp))/\w'.cell? ⟨w1.heap.size,1,none⟩=some (.slice a1 n1 c1)/\w'.cell? ⟨g,k*15+9,none⟩=some (.string t.st.sb)/\w'.cell? ⟨g,k*15+10,none⟩=some (.string t.st.cm)/\w'.cell? ⟨g,k*15+11,none⟩=some (.int .i64 t.st.ph)/\w'.cell? ⟨g,k*15+12,none⟩=some (.int .i64 t.st.sp)/\w'.cell? ⟨g,k*15+13,none⟩=some (.int .i64 t.st.wt)/\w'.cell? ⟨g,k*15+14,none⟩=some (.int .i64 t.st.si)/\w'.cell? ⟨r,1,none⟩=some (.int .i64 s.time)):=
   fun w' e=>⟨e.cell (ak.cells 0),e.cell (ak.cells 1),e.cell d9,e.cell d10,e.cell d11,e.cell d12,e.cell d13,e.cell d14,e.cell (ag.cells 1)⟩
  refine pk au (by kernel_rfl) (au _ Xt) (fun hHeld=> ?_);refine aK 0 (h:= ?_);refine aK 1 (h:= ?_);refine aK 2 (h:= ?_);refine aK 3 (h:= ?_);refine aK 4 (h:= ?_);refine aK 5 (h:= ?_);refine aK 6 (h:= ?_);refine aK 7 (h:= ?_);refine aK 8 (h:= ?_);refine aK 9 (h:= ?_);(try simp only [rl]);refine wpAnyH_ready (rs:= [10,14]) (by kernel_rfl) (by simp) ?_;refine AllReadyH.cons (Array.getElem?_eq_getElem (by decide)) (fun K hK=> ?_) (AllReadyH.cons (Array.getElem?_eq_getElem (by decide)) (fun K hK=> ?_) AllReadyH.nil)
  · (try simp only [rl])
    (try go_simp);(refine(M7 Hn.out _ hxl (hst.ext Xt) az.symm).mono ?_);rintro e w2 ⟨rfl,h2⟩;(try go_simp);have hx2:Ext wb w2:=Xt;have zI:=af.ext hx2 ai;have ij:=hx2.size;refine hK.out _ _ (au _ Xt) (fun hHeld=> ?_);clear hK K;refine aK 11 (h:= ?_);refine aK 12 (h:= ?_);refine aK 13 (h:= ?_);(try simp only [rl]);refine kv 14 (h:=fun K hK=> ?_);(try simp only [rl]);go_simp;refine hK.out _ _ (au _ Xt) (fun hHeld=> ?_);clear hK K;(try simp only [rl]);refine kv 15 (h:=fun K hK=> ?_);(try simp only [rl]);go_simp;refine hK.out _ _ (au _ Xt) (fun hHeld=> ?_);clear hK K;(try simp only [rl]);refine kv 16 (h:=fun K hK=> ?_);(try simp only [rl]);go_simp;refine hK.out _ _ (au _ Xt) (fun hHeld=> ?_);clear hK K;(try simp only [rl]);refine wpAnyH_done (by kernel_rfl) ?_ _;go_wp2_with fail
    go_meet
    exact⟨_,rfl,rfl,aj,by omega,aj,Xt⟩
  · (try simp only [rl])
    go_simp;refine hK.out _ _ (au _ Xt) (fun hHeld=> ?_);clear hK K;(try simp only [rl]);refine kv 10 (h:=fun K hK=> ?_);(try simp only [rl]);(try go_simp);(refine(M7 Hn.out _ hxl (hst.ext Xt) az.symm).mono ?_);rintro e w2 ⟨rfl,h2⟩;(try go_simp);have yh:af w2 wb.heap.size #[.string ⟨#[]⟩, .string ⟨#[]⟩, .int .i64 0, .int .i64 0, .int .i64 0, .int .i64 0] 44:=af.ext h2 aj;have hx2:Ext wb w2:=Xt;have zI:=af.ext hx2 ai;have ij:=hx2.size;obtain⟨hct,hft,hlt⟩:=yh.see;refine hK.out _ _ (au _ Xt) (fun hHeld=> ?_);clear hK K;refine aK 11 (h:= ?_);refine aK 12 (h:= ?_);refine aK 13 (h:= ?_);(try simp only [rl]);refine kv 15 (h:=fun K hK=> ?_);(try simp only [rl]);go_simp;refine hK.out _ _ (au _ Xt) (fun hHeld=> ?_);clear hK K;(try simp only [rl]);refine kv 16 (h:=fun K hK=> ?_);(try simp only [rl]);go_simp;refine hK.out _ _ (au _ Xt) (fun hHeld=> ?_);clear hK K;(try simp only [rl]);refine wpAnyH_done (by kernel_rfl) ?_ _;go_wp2_with fail
    go_meet
    exact⟨_,rfl,rfl,aj,by omega,aj,Xt⟩
 case rest=>
  clear ag hc0 aw hl0 ai ak d0 d1 d2 d3 d4 d5 d6 d7 d8 d9 d10 d11 d12 d13 d14;obtain⟨b,rfl,rfl,hBb,dY,ai,hx⟩:=hcut;have hlb:=hBb.lt;obtain⟨hcb,GH,hlb⟩:=hBb.see;obtain⟨hc1,aB,az⟩:=ai.see;by_cases h0:er=0
  ·subst h0
   have jP:Hid (wc.there g (k*15+9) 6):=Vh (cs:=t.cells ka kc la lc oa oc) (IP Hc.out hx) (by rw [Th.xH];omega);go_upto_region 7 with(refine wpList_store_mid rfl 44 _ _ rfl g (k*15+9) #[.string x.sb, .string x.cm, .int .i64 x.ph, .int .i64 x.sp, .int .i64 x.wt, .int .i64 x.si] (by rfl) (by rfl) (by exact jP.out) Tryz.aff (all_oneCell_toArray (St.afg x)) ?_)
   refine aI (R:=fun wy=>ez wy (fun b=>P b/\b<w.heap.size) r {s with ay:=s.ay.set k {t with st:=x}} (.slice (some ⟨g,0,none⟩) s.ay.length c) (xs.take (k*15+9)++ [.string x.sb, .string x.cm, .int .i64 x.ph, .int .i64 x.sp, .int .i64 x.wt, .int .i64 x.si]++xs.drop (k*15+9+6))/\af wy b #[.string x.sb, .string x.cm, .int .i64 x.ph, .int .i64 x.sp, .int .i64 x.wt, .int .i64 x.si] 44/\jm wy w.heap.size/\aU (fun b=>¬P b) w wy)
    ⟨by have:=fk.out.old.status (w':=wc) Xt hk x;rw [Ht.out] at this;exact this,hBb.nG (by omega) _ _,ai.nG (by omega) _ _,(Ext.upd hx _).sets (fun h=>absurd zE.out h) _ _⟩ ?_
   clear hBb ai hcb GH hlb hc1 aB az jP;rintro wd ⟨gF,hBb,ai,hup⟩;have qY:=ae gF;clear gF;obtain⟨hcb,GH,hlb⟩:=hBb.see;obtain⟨hc1,aB,az⟩:=ai.see;go_wp2_with fail;refine aG (h:= ?_);rw [ig.out,if_neg (by simp)];exact⟨rfl,⟨_,_,(qY.out.keep ((Held.kept (T:=fun b=>b<w.heap.size) aC).mono fun b hb=>hb.2)).mono fun b hb=> .inl hb.1⟩,gP⟩
  ·have rX:(er !=0)=true:=by simpa using h0
   have hup:aU (fun b=>¬P b) w wc:=hx.upd _;have afh:=ae (ig.out.trans (if_pos h0));clear h0;go_wp2_with fail;refine aG (h:= ?_);rw [afh.out];exact⟨rfl,⟨_,_,((fk.out.old.ext hx).keep ((Held.kept (T:=fun b=>b<w.heap.size) aC).mono fun b hb=>hb.2)).mono fun b hb=> .inl hb.1⟩,gP⟩
end Go.Proofs.YtlcebdaghmdkeaaGreatDoor
