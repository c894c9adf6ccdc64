import Derived.Test.YtlcebdaghmdkeabGreatDoorZ15
import Derived.Test.YtlcebdaghmdkeabGreatDoorZ19
set_option linter.all false
set_option maxRecDepth 100000
set_option maxHeartbeats 64000000
namespace Go.Proofs.YtlcebdaghmdkeabGreatDoor
open Go.Proofs.Tryz
open Go.ChangeShapes Go.WideShapes Go.ChangeAt Go.RowKit Go.Deep Go.Joins
open Go.ChangeMaps (open_string shut_string)
theorem Tryz.Pf:prog.cellsOf 28=8:=by kernel_rfl
def uT (w:World) (b o:Nat) (x:Ac):Prop:=
 w.cell? ⟨b,o,none⟩=some (.int .i64 x.k)/\w.cell? ⟨b,o+1,none⟩=some (.string x.name)/\w.cell? ⟨b,o+2,none⟩=some (.string x.who)/\w.cell? ⟨b,o+3,none⟩=some (.string x.body)/\
 w.cell? ⟨b,o+4,none⟩=some (.int .i64 x.ver)/\w.cell? ⟨b,o+5,none⟩=some (.int .i64 x.n)/\w.cell? ⟨b,o+6,none⟩=some (.int .i64 x.ord)/\w.cell? ⟨b,o+7,none⟩=some (.bool x.force)
def gI (w:World) (S:az) (l:List Ac) (a:au):Prop:=
 l= []\/∃b o,a=some ⟨b,o,none⟩/\S b/\∀i (h:i<l.length),uT w b (o+i*8) l[i]
theorem uT.keep {S:az} {w w':World} {b o:Nat} {x:Ac} (h:uT w b o x) (hk:Kept S w w') (hS:S b):uT w' b o x:=by
 obtain⟨h0,h1,h2,h3,h4,h5,h6,h7⟩:=h;exact⟨hk.cell hS h0,hk.cell hS h1,hk.cell hS h2,hk.cell hS h3,hk.cell hS h4,hk.cell hS h5,hk.cell hS h6,hk.cell hS h7⟩
theorem gI.keep {S:az} {w w':World} {l:List Ac} {a:au} (h:gI w S l a) (hk:Kept S w w'):gI w' S l a:=by
 rcases h with h|⟨b,o,rfl,hS,hr⟩
 ·exact .inl h
 ·exact .inr ⟨b,o,rfl,hS,fun i hi=>(hr i hi).keep hk hS⟩
theorem gI.mono {w:World} {S T:az} {l:List Ac} {a:au} (h:gI w S l a) (hT:∀b,S b->T b):gI w T l a:=by
 rcases h with h|⟨b,o,rfl,hS,hr⟩
 ·exact .inl h
 ·exact .inr ⟨b,o,rfl,hT b hS,hr⟩
def Ac.size (x:Ac):Nat:=1+x.name.size+x.who.size+x.body.size
def j3 (l:List Ac):Nat:=(l.map Ac.size).sum
theorem Ju (l:List Ac):l.length<=j3 l:=Ct Ac.size (fun x=>by unfold Ac.size;omega) l
theorem Az {l:List Ac} {o:Ac} (h:o∈l):o.size<=j3 l:=uO Ac.size h
theorem XE {H:Type} {enc:TypeId×Value->H} {w:World} {base:Nat} {spare:Nat->Bool} {held:Bool} {fuel:Nat} {cs:List Value} {x:DataW H×List MemPlace}
 (h:DataW.trod enc prog w base spare held fuel 28 cs=some x):∃o:Ac,cs= [.int .i64 o.k, .string o.name, .string o.who, .string o.body, .int .i64 o.ver, .int .i64 o.n, .int .i64 o.ord, .bool o.force]/\o.size<=Rows.uptoBulk x.1:=by
 obtain⟨xs,n,rfl,hx,hcl,hxl,hall⟩:=DataW.trod_struct underlying28 h;rw [Tryz.Pf] at hcl
 match cs,hcl with
 | [c0,c1,c2,c3,c4,c5,c6,c7],_=>
   match xs,hxl with
   | [x0,x1,x2,x3,x4,x5,x6,x7],_=>
     have t0:DataW.trod enc prog w base spare held n 3 [c0]=some x0:=hall 0 _ rfl;have t1:DataW.trod enc prog w base spare held n 9 [c1]=some x1:=hall 1 _ rfl;have t2:DataW.trod enc prog w base spare held n 9 [c2]=some x2:=hall 2 _ rfl;have t3:DataW.trod enc prog w base spare held n 9 [c3]=some x3:=hall 3 _ rfl;have t4:DataW.trod enc prog w base spare held n 3 [c4]=some x4:=hall 4 _ rfl;have t5:DataW.trod enc prog w base spare held n 3 [c5]=some x5:=hall 5 _ rfl;have t6:DataW.trod enc prog w base spare held n 3 [c6]=some x6:=hall 6 _ rfl;have t7:DataW.trod enc prog w base spare held n 4 [c7]=some x7:=hall 7 _ rfl;obtain⟨i0,e0,-,-⟩:=DataW.trod_int underlying3 t0;obtain⟨s1,e1,f1,-⟩:=DataW.trod_string underlying9 t1;obtain⟨s2,e2,f2,-⟩:=DataW.trod_string underlying9 t2;obtain⟨s3,e3,f3,-⟩:=DataW.trod_string underlying9 t3;obtain⟨i4,e4,-,-⟩:=DataW.trod_int underlying3 t4;obtain⟨i5,e5,-,-⟩:=DataW.trod_int underlying3 t5;obtain⟨i6,e6,-,-⟩:=DataW.trod_int underlying3 t6;obtain⟨b7,e7,-⟩:=DataW.trod_bool underlying4 t7;have h1:s1.size+1=Rows.uptoBulk x1.1:=by rw [f1];simp only [Rows.uptoBulk,Array.length_toList];rfl
     have h2:s2.size+1=Rows.uptoBulk x2.1:=by rw [f2];simp only [Rows.uptoBulk,Array.length_toList];rfl
     have h3:s3.size+1=Rows.uptoBulk x3.1:=by rw [f3];simp only [Rows.uptoBulk,Array.length_toList];rfl
     simp only [List.cons.injEq,and_true] at e0 e1 e2 e3 e4 e5 e6 e7;subst e0 e1 e2 e3 e4 e5 e6 e7;have agK:Rows.uptoBulk x.1=Rows.uptoBulk x0.1+(Rows.uptoBulk x1.1+(Rows.uptoBulk x2.1+(Rows.uptoBulk x3.1+(Rows.uptoBulk x4.1+(Rows.uptoBulk x5.1+(Rows.uptoBulk x6.1+(Rows.uptoBulk x7.1+0)))))))+1:=by rw [hx];simp only [Rows.uptoBulk,Pg,List.map_cons,List.map_nil,List.sum_cons,List.sum_nil]
     exact⟨⟨i0,s1,s2,s3,i4,i5,i6,b7⟩,rfl,by unfold Ac.size;simp only;omega⟩
theorem Cu {H:Type} {enc:TypeId×Value->H} {w:World} {base:Nat} {spare:Nat->Bool} {held:Bool} {fuel:Nat} {c:Value} {x:DataW H×List MemPlace}
 (h:DataW.trod enc prog w base spare held fuel 22 [c]=some x):∃a cap l,c= .slice a l.length cap/\aM a l.length cap/\gI w (Old w) l a/\j3 l+1<=Rows.uptoBulk x.1:=by
 rcases DataW.trod_slice underlying22 h with⟨hc,hy⟩|⟨a,len,cap,elems,rest,k,hk,hc,hy,hb,hl,hm,hlen,hel,-,-⟩
 ·simp only [List.cons.injEq,and_true] at hc
  exact⟨none,0, [],hc,aM.nil, .inl rfl,by have:=XF x.1;simpa [j3] using this⟩
 ·simp only [List.cons.injEq,and_true] at hc
  subst hc;obtain⟨b,o,sp⟩:=a;simp only at hb hm hel
  have took:∀i,i<len->∃(cs':List Value) (v:Ac),w.cells? base ((⟨b,o,sp⟩:Addr).add (i*8)) 8=some cs'/\cs'= [.int .i64 v.k, .string v.name, .string v.who, .string v.body, .int .i64 v.ver, .int .i64 v.n, .int .i64 v.ord, .bool v.force]/\
   (∀hi:i<elems.length,v.size<=Rows.uptoBulk (elems[i]).1):=by
   intro i hi;have he:=hel i hi;rw [List.getElem?_eq_getElem (by omega),Tryz.Pf] at he;obtain⟨cs',h1,h2⟩:=Option.bind_eq_some_iff.1 he;obtain⟨v,hcs,hv⟩:=XE h2;exact⟨cs',v,h1,hcs,fun _=>hv⟩
  have hsp:0<len->sp=none:=by intro h;obtain⟨cs',v,h1,rfl,-⟩:=took 0 h;obtain⟨_,_,hcell⟩:=World.cells?_some h1;have:=World.cell?_spot (hcell 0 (by omega));simpa [Addr.add] using this
  have each:∀i,i<len->∃v:Ac,uT w b (o+i*8) v/\sp=none/\b<w.heap.size/\ (∀hi:i<elems.length,v.size<=Rows.uptoBulk (elems[i]).1):=by intro i hi;have XG:=hsp (by omega);subst XG;obtain⟨cs',v,h1,rfl,hv⟩:=took i hi;obtain⟨_,_,hcell⟩:=World.cells?_some h1;have g:=fun j (hj:j<8)=>hcell j hj;simp only [Addr.add_lit] at g;have g0:=g 0 (by omega);have g1:=g 1 (by omega);have g2:=g 2 (by omega);have g3:=g 3 (by omega);have g4:=g 4 (by omega);have g5:=g 5 (by omega);have g6:=g 6 (by omega);have g7:=g 7 (by omega);simp only [Nat.add_zero,List.getElem?_cons_zero,List.getElem?_cons_succ] at g0 g1 g2 g3 g4 g5 g6 g7;have hlt:=lh g0;exact⟨v,⟨g0,g1,g2,g3,g4,g5,g6,g7⟩,rfl,hlt,hv⟩
  obtain⟨l,ay,hl2⟩:=XH each;subst ay;refine⟨some ⟨b,o,sp⟩,cap,l,rfl,⟨hl,hm,by simp⟩,?_,?_⟩
  ·by_cases h0:l= []
   ·exact .inl h0
   ·have hpos:=List.length_pos_iff.2 h0
    obtain⟨-,hsp,hlt,-⟩:=hl2 0 hpos;subst hsp;exact .inr ⟨b,o,rfl,hlt,fun i hi=>(hl2 i hi).1⟩
  ·have hle:(l.map Ac.size).sum<= ((elems.map (·.1)).map Rows.uptoBulk).sum:=by
    have h2:∀i (hi:i<l.length) (hj:i<elems.length),(l[i]).size<=Rows.uptoBulk (elems[i]).1:=fun i hi hj=>(hl2 i hi).2.2.2 hj;exact XI l (elems.map (·.1)) Ac.size Rows.uptoBulk (by simp [hlen]) (fun i hi hj=>by have:=h2 i hi (by simpa using hj);simpa using this)
   have:x.1= .slice (elems.map (·.1)) (rest.map (·.1)):=by rw [hy]
   rw [this];unfold j3;simp only [Rows.uptoBulk,Pg];omega
end Go.Proofs.YtlcebdaghmdkeabGreatDoor
namespace Go.Proofs.YtlcebdaghmdkeabGreatDoor
open Go.Proofs.Tryz
open Go.RowKit
theorem Tryz.XJ:(prog.info? 198).map (fun i=>(i.zero,i.size,i.bytes))=some (some (.agg #[.int .i64 0, .string ⟨#[]⟩, .string ⟨#[]⟩, .int .i64 0, .int .i64 0, .string ⟨#[]⟩, .slice none 0 0, .slice none 0 0]),8,120):=by kernel_rfl
def bM.eight (o:bM) (ka:au) (kc:Nat) (la:au) (lc:Nat):List Value:= [.int .i64 o.k, .string o.p, .string o.f, .int .i64 o.v.k, .int .i64 o.v.n, .string o.v.s, .slice ka o.v.keys.length kc, .slice la o.v.l.length lc]
def pW (w:World) (T:az):List bM->List Value->Prop
 | [],xs=>xs= []
 |x::r,xs=>∃ka kc la lc t,xs=x.eight ka kc la lc++t/\x.v.In w T ka kc la lc/\pW w T r t
theorem pW.keep {S T:az} {w w':World} {l:List bM} {xs:List Value} (h:pW w S l xs) (hk:Kept S w w') (hT:∀b,S b->b<w.heap.size->T b):pW w' T l xs:=by
 induction l generalizing xs with
 |nil=>exact h
 |cons x r ih=>
  obtain⟨ka,kc,la,lc,t,rfl,h1,h2⟩:=h;exact⟨ka,kc,la,lc,t,rfl,h1.keep hk hT,ih h2⟩
theorem pW.one {w:World} {T:az} {l:List bM} {xs:List Value} (h:pW w T l xs):∀u∈xs,u.oneCell'=true:=by
 induction l generalizing xs with
 |nil=>subst h;simp
 |cons y r ih=>
  obtain⟨a,b,c,d,t,rfl,h1,h2⟩:=h;intro u hu;rcases List.mem_append.1 hu with hu|hu
  ·simp only [bM.eight,List.mem_cons,List.not_mem_nil,or_false] at hu
   rcases hu with rfl|rfl|rfl|rfl|rfl|rfl|rfl|rfl<;>rfl
  ·exact ih h2 u hu
theorem pW.item {w:World} {T:az} {l:List bM} {xs:List Value} (h:pW w T l xs):∀i (hi:i<l.length),∃ka kc la lc,(∀q u,(l[i].eight ka kc la lc)[q]? =some u->xs[i*8+q]? =some u)/\l[i].v.In w T ka kc la lc:=by
 induction l generalizing xs with
 |nil=>intro i hi;simp at hi
 |cons y r ih=>
  obtain⟨a,b,c,d,t,rfl,h1,h2⟩:=h;intro i hi
  match i with
  |0=>
   refine⟨a,b,c,d,fun q u hq=> ?_,by simpa using h1⟩;have hlt:q<(y.eight a b c d).length:=by have:=(List.getElem?_eq_some_iff.1 hq).1;simpa using this
   simp only [List.getElem_cons_zero] at hq;rw [Nat.zero_mul,Nat.zero_add,List.getElem?_append_left hlt];exact hq
  |i+1=>
   obtain⟨ka,kc,la,lc,hc,hin⟩:=ih h2 i (by simpa using hi);refine⟨ka,kc,la,lc,fun q u hq=> ?_,by simpa using hin⟩;have:=hc q u (by simpa using hq);rw [List.getElem?_append_right (by simp [bM.eight];omega)];rw [show (i+1)*8+q-(y.eight a b c d).length=i*8+q from by simp [bM.eight];omega];exact this
theorem XK {w:World} {base n c:Nat} {T:az} {a:au} {l:List bM} {xs:List Value} (hn:l.length=n) (h:w.ownsRow base 198 8 (.slice a n c) n xs) (hc:pW w T l xs):oX w (fun q=>T q\/base<=q) a l:=by
 obtain⟨hl,h1⟩:=h;rcases h1 with⟨hv,hn0⟩|⟨g,cap,cur,hv,hb,hg,hnc,hcm,hcs,ht⟩
 ·exact .inl (List.length_eq_zero_iff.1 (by omega))
 ·simp only [Value.slice.injEq,true_and] at hv
  obtain⟨rfl,rfl⟩:=hv;refine .inr ⟨g,0,rfl, .inr hb,?_⟩;intro i hi;obtain⟨ka,kc,la,lc,hq,hin⟩:=hc.item i hi;have hx:∀j u,xs[j]? =some u->w.cell? ⟨g,j,none⟩=some u:=by
   intro j u hj;rw [cell_of_row w g j cur _ _ hg];rw [<-ht] at hj;rw [List.getElem?_take] at hj
   split at hj
   ·simpa using hj
   ·cases hj
  rw [Nat.zero_add];exact⟨hx _ _ (hq 0 _ rfl),hx _ _ (hq 1 _ rfl),hx _ _ (hq 2 _ rfl),ka,kc,la,lc,⟨hx _ _ (hq 3 _ rfl),hx _ _ (hq 4 _ rfl),hx _ _ (hq 5 _ rfl),hx _ _ (hq 6 _ rfl),hx _ _ (hq 7 _ rfl)⟩,hin.mono (fun b hb _=> .inl hb)⟩
end Go.Proofs.YtlcebdaghmdkeabGreatDoor
namespace Go.Proofs.YtlcebdaghmdkeabGreatDoor
open Go.Proofs.Tryz
open Go.RowKit
attribute [local go_sem↓] Go.wp_at_zero Go.wp_at_succ
theorem aeY (x y:Ow) (pa qa:au) (pc qc:Nat) (S T:az) (w:World) (h1:bR w S pa x.paths) (h2:bR w T qa y.paths) (hb:x.paths.length<=1073741824):
 Calls prog 92 #[.agg #[.string x.name, .slice pa x.paths.length pc], .agg #[.string y.name, .slice qa y.paths.length qc]] w (zJ (x=y) w):=by
 have H1:=ae h1;have H2:=ae h2;have UZ:=ae (show x=y↔x.name=y.name/\x.paths=y.paths by cases x;cases y;simp);clear h1 h2;by_cases hn:x.name=y.name
 ·have hnb:=qL hn
  have Hn:=ae hn;clear hn;go_enter func92,ntmps92;go_wp2_with fail;(refine(Ub x.paths.length y.paths.length pc qc pa qa x.paths y.paths S T _ (ae rfl) (ae rfl) (H1.out.ext Xt) (H2.out.ext Xt) hb).mono ?_);rintro e w1 ⟨b,rfl,hr,H9⟩;have Hr:=ae hr;clear hr;go_wp2_with fail;go_ret;exact⟨_,rfl,by rw [UZ.out,Hr.out];exact⟨fun h=>⟨Hn.out,h⟩,fun h=>h.2⟩,Xt⟩
 ·have hnb:=qM hn
  have Hn:=ae hn;clear hn;go_enter func92,ntmps92;go_wp2_with fail;go_ret;exact⟨_,rfl,⟨fun h=>by(first|cases h|simp at h),fun h=>absurd (UZ.out.1 h).1 Hn.out⟩,Xt⟩
theorem aeZ (n m ca cb:Nat) (a b:au) (l t:List Ow) (S T:az) (w:World) (hn:Hid (l.length=n)) (hm:Hid (t.length=m)) (h1:cx w S l a) (h2:cx w T t b) (hb:n<=1073741824) (hs1:Hid (∀x∈l,x.size<=1073741824)):
 Calls prog 93 #[.slice a n ca, .slice b m cb, .func (.func 92) #[] #[]] w (zJ (l=t) w):=by
 by_cases eF:n=m
 ·subst eF
  go_enter func93,ntmps93;go_wp2_with fail
  go_loopg [7,8,9,17] n (fun g _ _ _ i wr=>∃k:Nat,k<=n/\i= .int .i64 k/\g=n-k/\Hid (l.take k=t.take k)/\Ext w wr)
  case atStart=>exact⟨0,by omega,rfl,rfl,ae (by simp),Xt⟩
  case round=>
   obtain⟨k,hk,rfl,rfl,Ht,hx⟩:=hrel;by_cases hlt:k<n
   ·have ay:k<l.length:=by rw [hn.out];exact hlt
    have hl2:k<t.length:=by rw [hm.out];exact hlt
    obtain⟨b1,o1,rfl,o8,c1⟩:=h1.resolve_left (by intro e;subst e;simp at ay);obtain⟨b2,o2,rfl,Nw,c2⟩:=h2.resolve_left (by intro e;subst e;simp at hl2);obtain⟨pa,pc,d0,d1,-,eJ⟩:=(c1 k ay).keep (T:=S) o8 (hx.kept S) (fun _ h _=>h);obtain⟨qa,qc,g0,g1,-,bN⟩:=(c2 k hl2).keep (T:=T) Nw (hx.kept T) (fun _ h _=>h);have lM:=ae eJ;have bE:=ae bN;clear c1 c2 eJ bN;have kY:(0:Int)<= (k:Int):=by omega
    have kZ:(k:Int)<(n:Int):=by omega
    have hz1:=hs1.out _ (List.getElem_mem ay);have hzl:=(l[k]).qH;have hb1:b1<wr.heap.size:=lh d0;have hb2:b2<wr.heap.size:=lh g0;go_wp2_with fail;(refine(aeY l[k] t[k] pa qa pc qc S T _ (lM.out.ext Xt) (bE.out.ext Xt) (by omega)).mono ?_);rintro e w1 ⟨r,rfl,hr,H9⟩;have Hr:=ae hr;have hx1:Ext w w1:=Xt;clear hr H9
    cases r with
    |true=>
     have uw:=ae (MS ay hl2 Ht.out (Hr.out.1 (by trivial)));go_wp2_with fail;go_roundg (n-(k+1))
     case measure=>omega
     case rel=>exact⟨k+1,by omega,by go_num,rfl,uw,Xt⟩
    |false=>
     have He:=ae (show l[k]≠t[k] from fun h=>by have:=Hr.out.2 h;cases this);go_wp2_with fail;go_ret;exact⟨_,rfl,⟨fun h=>by(first|cases h|simp at h),fun h=>absurd (by simp only [h]) He.out⟩,Xt⟩
   ·have cy:=ae (show l=t by
     have:=Ht.out
     rwa [List.take_of_length_le (by rw [hn.out];omega),List.take_of_length_le (by rw [hm.out];omega)] at this)
    go_wp2_with fail;go_ret;exact⟨_,rfl,⟨fun _=>cy.out,fun _=>rfl⟩,Xt⟩
 ·have hnb:((n:Int) !=(m:Int))=true:=by simp;omega
  have hnc:((n:Int)==(m:Int))=false:=by simp;omega
  have dW:=ae (show l≠t from fun h=>eF (by rw [<-hn.out,<-hm.out,h]));clear eF;go_enter func93,ntmps93;go_wp2_with fail;go_ret;exact⟨_,rfl,⟨fun h=>by(first|cases h|simp at h),fun h=>absurd h dW.out⟩,Xt⟩
end Go.Proofs.YtlcebdaghmdkeabGreatDoor
