import Derived.Test.YtlcebdaghmdkeaaGreatDoorZ21
set_option linter.all false
set_option maxRecDepth 100000
set_option maxHeartbeats 64000000
namespace Go.Proofs.YtlcebdaghmdkeaaGreatDoor
structure Th where
 name:ah
 v:V
 ows:List Ow
 ver:Int
 gen:Int
 st:St
structure Sv where
 ay:List Th
 time:Int
 last:Int
 acts:Int
structure Ac where
 k:Int
 name:ah
 who:ah
 body:ah
 ver:Int
 n:Int
 ord:Int
 force:Bool
structure Rp where
 c:Int
 n:Int
 b:ah
abbrev fx (w:World) (a:Nat) (t:Th) (ka:aq) (kc:Nat) (la:aq) (lc:Nat) (oa:aq) (oc:Nat):Prop:=af w a #[.string t.name, .int .i64 t.v.k, .int .i64 t.v.n, .string t.v.s, .slice ka t.v.keys.length kc, .slice la t.v.l.length lc, .slice oa t.ows.length oc, .int .i64 t.ver, .int .i64 t.gen, .string t.st.sb, .string t.st.cm, .int .i64 t.st.ph, .int .i64 t.st.sp, .int .i64 t.st.wt, .int .i64 t.st.si] 46
abbrev kY (w:World) (a:Nat) (x:Ac):Prop:=af w a #[.int .i64 x.k, .string x.name, .string x.who, .string x.body, .int .i64 x.ver, .int .i64 x.n, .int .i64 x.ord, .bool x.force] 24
abbrev jm (w:World) (a:Nat):Prop:=af w a #[.int .i64 0, .int .i64 0, .string ⟨#[]⟩] 34
def Rp.no (e:Int):Rp:=⟨e,0,⟨#[]⟩⟩
def Rp.num (n:Int):Rp:=⟨0,n,⟨#[]⟩⟩
def NK (a b:Ow):Bool:=decide (a.name=b.name)&&decide (a.paths=b.paths)
def xJ:List Ow->List Ow->Bool
 | [], []=>true
 |a::l,b::m=>NK a b&&xJ l m
 |_,_=>false
theorem afi (a b:Ow):NK a b=true↔a=b:=by
 cases a;cases b;simp [NK]
theorem NI:∀(l m:List Ow),xJ l m=true↔l=m
 | [], []=>by simp [xJ]
 | [],_::_=>by simp [xJ]
 |_::_, []=>by simp [xJ]
 |a::l,b::m=>by simp only [xJ,Bool.and_eq_true,afi,NI l m,List.cons.injEq]
def mJ (v b:V) (k:Int):V×Int:=
 if k=3 then mV v b else if k=4 then(if(jW b).2=0 then kR v (jW b).1 else(b,(jW b).2)) else(b,0)
def cR (v:V) (ows:List Ow) (a:Ac):V×List Ow×Int:=
 if(dX a.body.data.toList).2≠0 then(v,ows,(dX a.body.data.toList).2)
 else if a.k=5 then((jM v ows a.who (dX a.body.data.toList).1 a.force).1,(jM v ows a.who (dX a.body.data.toList).1 a.force).2.1,(jM v ows a.who (dX a.body.data.toList).1 a.force).2.2.2)
 else((mJ v (dX a.body.data.toList).1 a.k).1,kU (mJ v (dX a.body.data.toList).1 a.k).1 ows,(mJ v (dX a.body.data.toList).1 a.k).2)
def Th.next (t:Th) (time o:Int):St×Int:=eI (kC (cy t.v)) (fK (cy t.v)) t.st time o
def Th.ord (t:Th) (time o:Int):Th:=if(t.next time o).2=0 then {t with st:=(t.next time o).1} else t
def Th.other (t:Th) (v:V):Bool:=decide (t.ver=0)|| !v.same t.v
def Th.turn (t:Th) (v:V) (ows:List Ow):Bool:=t.other v|| !xJ ows t.ows
def Th.kept (t:Th) (v:V) (ows:List Ow) (time last:Int):Th:=
 ⟨t.name,v,ows,if t.turn v ows then last+1 else t.ver,if t.other v then t.gen+1 else t.gen,(eI (kC (cy v)) (fK (cy v)) t.st time 0).1⟩
def o7 (s:Sv) (k:Nat) (t:Th) (v:V) (ows:List Ow):Sv×Rp:=
 if cy v=none then(s, .no 1)
 else(⟨s.ay.set k (t.kept v ows s.time s.last),s.time,if t.turn v ows then s.last+1 else s.last,s.acts⟩, .num (t.kept v ows s.time s.last).ver)
def eO (l:List Th) (name:ah):Nat:=posOf (l.map Th.name) name
def fL (l:List Th) (name:ah):Bool:=hasB (l.map Th.name) name
def nR (name:ah) (v:V):Th:=⟨name,V.cj, [],0,0,vJ (kC (cy v)) (fK (cy v))⟩
def qW (s:Sv) (a:Ac) (k:Nat) (there:Bool):Sv×Rp:=
 if there=true then(s, .no 6)
 else if 8<=s.ay.length then(s, .no 10)
 else if(cR V.cj [] a).2.2≠0 then(s, .no (cR V.cj [] a).2.2)
 else if cy (cR V.cj [] a).1=none then(s, .no 1)
 else o7 {s with ay:=s.ay.take k++nR a.name (cR V.cj [] a).1::s.ay.drop k} k (nR a.name (cR V.cj [] a).1) (cR V.cj [] a).1 (cR V.cj [] a).2.1
def nO (s:Sv) (n:Int):Sv×Rp:=
 if n<1\/1099511627776-s.time<n then(s, .no 8)
 else({s with ay:=s.ay.map fun t=>t.ord (s.time+n) 0,time:=s.time+n}, .no 0)
def xC (s:Sv) (k:Nat) (t:Th) (o:Int):Sv×Rp:=
 if(t.next s.time o).2≠0 then(s, .no (t.next s.time o).2) else({s with ay:=s.ay.set k (t.ord s.time o)}, .num (t.next s.time o).1.ph)
def uz (t:Th):Rp:=if(gf t.v).2≠0 then .no (gf t.v).2 else⟨0,t.ver,⟨(gf t.v).1.toArray⟩⟩
def qX (s:Sv) (k:Nat) (t:Th) (a:Ac):Sv×Rp:=
 if a.k=6 then({s with ay:=s.ay.take k++s.ay.drop (k+1)}, .num t.ver)
 else if a.k=9 then(s,uz t)
 else if a.k=7 then xC s k t a.ord
 else if a.k≠5/\a.ver≠0/\a.ver≠t.ver then(s, .no 7)
 else if(cR t.v t.ows a).2.2≠0 then(s, .no (cR t.v t.ows a).2.2)
 else o7 s k t (cR t.v t.ows a).1 (cR t.v t.ows a).2.1
def uy (s:Sv) (a:Ac):Sv×Rp:=
 if a.k<1\/9<a.k then(s, .no 9)
 else if a.k=8 then nO s a.n
 else if fe a.name=false then(s, .no 1)
 else if a.k=1\/ (a.k=5/\fL s.ay a.name=false) then qW s a (eO s.ay a.name) (fL s.ay a.name)
 else if fL s.ay a.name=false then(s, .no 3)
 else match s.ay[eO s.ay a.name]? with
  |some t=>qX s (eO s.ay a.name) t a
  |none=>(s, .no 3)
def bz (s:Sv) (a:Ac):Sv×Rp:=if 300<=s.acts then(s, .no 10) else uy {s with acts:=s.acts+1} a
def cQ:Sv:=⟨[],0,0,0⟩
def fq (s:Sv) (l:List Ac):Sv:=l.foldl (fun s a=>(bz s a).1) s
end Go.Proofs.YtlcebdaghmdkeaaGreatDoor
namespace Go.Proofs.YtlcebdaghmdkeaaGreatDoor
open Go.Proofs.Tryz
open Go.RowKit
attribute [local go_sem↓] Go.wp_at_zero Go.wp_at_succ
theorem ae3 (x y:Ow) (pa qa:aq) (pc qc:Nat) (S T:aA) (w:World) (h1:bT w S pa x.paths) (h2:bT w T qa y.paths) (hb:x.paths.length<=1073741824):
 Calls prog 54 #[.agg #[.string x.name, .slice pa x.paths.length pc], .agg #[.string y.name, .slice qa y.paths.length qc]] w (zr (x=y) w):=by
 have H1:=ae h1;have H2:=ae h2;have UT:=ae (show x=y↔x.name=y.name/\x.paths=y.paths by cases x;cases y;simp);clear h1 h2;by_cases hn:x.name=y.name
 ·have hnb:=qA hn
  have Hn:=ae hn;clear hn;go_enter func54,ntmps54;go_wp2_with fail;(refine(T9 x.paths.length y.paths.length pc qc pa qa x.paths y.paths S T _ (ae rfl) (ae rfl) (H1.out.ext Xt) (H2.out.ext Xt) hb).mono ?_);rintro e w1 ⟨b,rfl,hr,Bq⟩;have Hr:=ae hr;clear hr;go_wp2_with fail;go_ret;exact⟨_,rfl,by rw [UT.out,Hr.out];exact⟨fun h=>⟨Hn.out,h⟩,fun h=>h.2⟩,Xt⟩
 ·have hnb:=tP hn
  have Hn:=ae hn;clear hn;go_enter func54,ntmps54;go_wp2_with fail;go_ret;exact⟨_,rfl,⟨fun h=>by(first|cases h|simp at h),fun h=>absurd (UT.out.1 h).1 Hn.out⟩,Xt⟩
theorem ae4 (n m ca cb:Nat) (a b:aq) (l t:List Ow) (S T:aA) (w:World) (hn:Hid (l.length=n)) (hm:Hid (t.length=m)) (h1:cz w S l a) (h2:cz w T t b) (hb:n<=1073741824) (hs1:Hid (∀x∈l,x.size<=1073741824)):
 Calls prog 56 #[.slice a n ca, .slice b m cb, .func (.func 54) #[] #[]] w (zr (l=t) w):=by
 by_cases eG:n=m
 ·subst eG
  go_enter func56,ntmps56;go_wp2_with fail
  go_loopg [7,8,9,17] n (fun g _ _ _ i wr=>∃k:Nat,k<=n/\i= .int .i64 k/\g=n-k/\Hid (l.take k=t.take k)/\Ext w wr)
  case atStart=>exact⟨0,by omega,rfl,rfl,ae (by simp),Xt⟩
  case round=>
   obtain⟨k,hk,rfl,rfl,Ht,hx⟩:=hrel;by_cases hlt:k<n
   ·have az:k<l.length:=by rw [hn.out];exact hlt
    have hl2:k<t.length:=by rw [hm.out];exact hlt
    obtain⟨b1,o1,rfl,tS,c1⟩:=h1.resolve_left (by intro e;subst e;simp at az);obtain⟨b2,o2,rfl,hTb,c2⟩:=h2.resolve_left (by intro e;subst e;simp at hl2);obtain⟨pa,pc,d0,d1,-,fA⟩:=(c1 k az).keep (T:=S) tS (hx.kept S) (fun _ h _=>h);obtain⟨qa,qc,g0,g1,-,bZ⟩:=(c2 k hl2).keep (T:=T) hTb (hx.kept T) (fun _ h _=>h);have og:=ae fA;have cE:=ae bZ;clear c1 c2 fA bZ;have mh:(0:Int)<= (k:Int):=by omega
    have ml:(k:Int)<(n:Int):=by omega
    have hz1:=hs1.out _ (List.getElem_mem az);have hzl:=(l[k]).tL;have hb1:b1<wr.heap.size:=lu d0;have hb2:b2<wr.heap.size:=lu g0;go_wp2_with fail;(refine(ae3 l[k] t[k] pa qa pc qc S T _ (og.out.ext Xt) (cE.out.ext Xt) (by omega)).mono ?_);rintro e w1 ⟨r,rfl,hr,Bq⟩;have Hr:=ae hr;have hx1:Ext w w1:=Xt;clear hr Bq
    cases r with
    |true=>
     have um:=ae (MW az hl2 Ht.out (Hr.out.1 (by trivial)));go_wp2_with fail;go_roundg (n-(k+1))
     case measure=>omega
     case rel=>exact⟨k+1,by omega,by go_num,rfl,um,Xt⟩
    |false=>
     have He:=ae (show l[k]≠t[k] from fun h=>by have:=Hr.out.2 h;cases this);go_wp2_with fail;go_ret;exact⟨_,rfl,⟨fun h=>by(first|cases h|simp at h),fun h=>absurd (by simp only [h]) He.out⟩,Xt⟩
   ·have cF:=ae (show l=t by
     have:=Ht.out
     rwa [List.take_of_length_le (by rw [hn.out];omega),List.take_of_length_le (by rw [hm.out];omega)] at this)
    go_wp2_with fail;go_ret;exact⟨_,rfl,⟨fun _=>cF.out,fun _=>rfl⟩,Xt⟩
 ·have hnb:((n:Int) !=(m:Int))=true:=by simp;omega
  have hnc:((n:Int)==(m:Int))=false:=by simp;omega
  have dW:=ae (show l≠t from fun h=>eG (by rw [<-hn.out,<-hm.out,h]));clear eG;go_enter func56,ntmps56;go_wp2_with fail;go_ret;exact⟨_,rfl,⟨fun h=>by(first|cases h|simp at h),fun h=>absurd h dW.out⟩,Xt⟩
end Go.Proofs.YtlcebdaghmdkeaaGreatDoor
namespace Go.Proofs.YtlcebdaghmdkeaaGreatDoor
open Go.Proofs.Tryz
open Go.RowKit
theorem Tryz.BX:(prog.info? 46).map (fun i=>(i.zero,i.size,i.bytes))=some (some (.agg #[.string ⟨#[]⟩, .int .i64 0, .int .i64 0, .string ⟨#[]⟩, .slice none 0 0, .slice none 0 0, .slice none 0 0, .int .i64 0, .int .i64 0, .string ⟨#[]⟩, .string ⟨#[]⟩, .int .i64 0, .int .i64 0, .int .i64 0, .int .i64 0]),15,200):=by kernel_rfl
theorem Tryz.afe:(prog.info? 46).map (·.size)=some 15:=by kernel_rfl
theorem Tryz.aff:(prog.info? 44).map (·.size)=some 6:=by kernel_rfl
def Th.cells (t:Th) (ka:aq) (kc:Nat) (la:aq) (lc:Nat) (oa:aq) (oc:Nat):List Value:= [.string t.name, .int .i64 t.v.k, .int .i64 t.v.n, .string t.v.s, .slice ka t.v.keys.length kc, .slice la t.v.l.length lc, .slice oa t.ows.length oc, .int .i64 t.ver, .int .i64 t.gen, .string t.st.sb, .string t.st.cm, .int .i64 t.st.ph, .int .i64 t.st.sp, .int .i64 t.st.wt, .int .i64 t.st.si]
theorem Th.xH (t:Th) (ka:aq) (kc:Nat) (la:aq) (lc:Nat) (oa:aq) (oc:Nat):(t.cells ka kc la lc oa oc).length=15:=rfl
theorem Th.IQ (t:Th) (ka:aq) (kc:Nat) (la:aq) (lc:Nat) (oa:aq) (oc:Nat):∀u∈t.cells ka kc la lc oa oc,u.oneCell'=true:=by
 intro u hu;simp only [Th.cells,List.mem_cons,List.not_mem_nil,or_false] at hu;rcases hu with rfl|rfl|rfl|rfl|rfl|rfl|rfl|rfl|rfl|rfl|rfl|rfl|rfl|rfl|rfl<;>rfl
structure kG (w:World) (T:aA) (t:Th) (ka:aq) (kc:Nat) (la:aq) (lc:Nat) (oa:aq) (oc:Nat):Prop where
 v:t.v.In w T ka kc la lc
 ok:aO oa t.ows.length oc
 ows:cz w T t.ows oa
theorem kG.keep {S T:aA} {w w':World} {t:Th} {ka:aq} {kc:Nat} {la:aq} {lc:Nat} {oa:aq} {oc:Nat} (h:kG w S t ka kc la lc oa oc) (hk:Kept S w w') (hT:∀b,S b->b<w.heap.size->T b):kG w' T t ka kc la lc oa oc:=
 ⟨h.v.keep hk hT,h.ok,h.ows.keep hk hT⟩
def fU (w:World) (T:aA):List Th->List Value->Prop
 | [],xs=>xs= []
 |x::r,xs=>∃ka kc la lc oa oc t,xs=x.cells ka kc la lc oa oc++t/\kG w T x ka kc la lc oa oc/\fU w T r t
theorem fU.keep {S T:aA} {w w':World} {l:List Th} {xs:List Value} (h:fU w S l xs) (hk:Kept S w w') (hT:∀b,S b->b<w.heap.size->T b):fU w' T l xs:=by
 induction l generalizing xs with
 |nil=>exact h
 |cons x r ih=>
  obtain⟨ka,kc,la,lc,oa,oc,t,rfl,h1,h2⟩:=h;exact⟨ka,kc,la,lc,oa,oc,t,rfl,h1.keep hk hT,ih h2⟩
theorem fU.one {w:World} {T:aA} {l:List Th} {xs:List Value} (h:fU w T l xs):∀u∈xs,u.oneCell'=true:=by
 induction l generalizing xs with
 |nil=>subst h;simp
 |cons y r ih=>
  obtain⟨a,b,c,d,e,f,t,rfl,h1,h2⟩:=h;intro u hu;rcases List.mem_append.1 hu with hu|hu
  ·exact Th.IQ _ _ _ _ _ _ _ u hu
  ·exact ih h2 u hu
theorem fU.app {w:World} {T:aA} {l m:List Th} {xs ys:List Value} (h:fU w T l xs) (k:fU w T m ys):fU w T (l++m) (xs++ys):=by
 induction l generalizing xs with
 |nil=>subst h;exact k
 |cons y r ih=>
  obtain⟨a,b,c,d,e,f,t,rfl,h1,h2⟩:=h;exact⟨a,b,c,d,e,f,_,by rw [List.append_assoc],h1,ih h2⟩
theorem fU.cut {w:World} {T:aA} {l:List Th} {xs:List Value} (h:fU w T l xs) (k:Nat):fU w T (l.take k) (xs.take (k*15))/\fU w T (l.drop k) (xs.drop (k*15)):=by
 induction l generalizing xs k with
 |nil=>subst h;simp [fU]
 |cons y r ih=>
  match k with
  |0=>simpa [fU] using h
  |k+1=>
   obtain⟨a,b,c,d,e,f,t,rfl,h1,h2⟩:=h;obtain⟨h3,h4⟩:=ih h2 k;have hl:=y.xH a b c d e f;constructor
   ·refine⟨a,b,c,d,e,f,_,?_,h1,h3⟩
    rw [List.take_append,hl,List.take_of_length_le (by omega),show (k+1)*15-15=k*15 by omega]
   ·show fU w T (r.drop k) _
    rw [List.drop_append,hl,List.drop_of_length_le (l:=y.cells a b c d e f) (by omega),show (k+1)*15-15=k*15 by omega];exact h4
theorem fU.ins {w:World} {T:aA} {l:List Th} {xs:List Value} (h:fU w T l xs) (k j:Nat) {t:Th} {ka:aq} {kc:Nat} {la:aq} {lc:Nat} {oa:aq} {oc:Nat} (ht:kG w T t ka kc la lc oa oc):
 fU w T (l.take k++t::l.drop j) (xs.take (k*15)++t.cells ka kc la lc oa oc++xs.drop (j*15)):=by
 rw [List.append_assoc];exact(h.cut k).1.app ⟨ka,kc,la,lc,oa,oc,_,rfl,ht,(h.cut j).2⟩
theorem fU.at {w:World} {T:aA} {l:List Th} {xs:List Value} (h:fU w T l xs) {i:Nat} (hi:i<l.length):∃ka kc la lc oa oc,(xs.drop (i*15)).take 15=l[i].cells ka kc la lc oa oc/\kG w T l[i] ka kc la lc oa oc:=by
 have h1:=(h.cut i).2;rw [List.drop_eq_getElem_cons hi] at h1;obtain⟨a,b,c,d,e,f,t,h2,h3,-⟩:=h1;exact⟨a,b,c,d,e,f,by rw [h2,List.take_append_of_le_length (by rw [Th.xH];omega),List.take_of_length_le (by rw [Th.xH];omega)],h3⟩
theorem Vj {T:TypeId} {g:Nat}:∀(cs:List Value) {w:World} {cur:Array Value} (o:Nat),af w g cur T->o+cs.length<=cur.size->∃cur':Array Value,af (w.setCells g o cs) g cur' T/\cur'.toList=cur.toList.take o++cs++cur.toList.drop (o+cs.length)
 | [],w,cur,o,h,_=>⟨cur,h,by simp⟩
 |c::r,w,cur,o,h,hs=>by
  have hs':o+(r.length+1)<=cur.size:=by simpa using hs
  obtain⟨cur',h1,h2⟩:=Vj r (o+1) (h.set o c) (by simpa using (show o+1+r.length<=cur.size by omega));refine⟨cur',h1,?_⟩;have hl:o<cur.toList.length:=by rw [Array.length_toList];omega
  rw [h2,Array.toList_setIfInBounds,List.take_succ_eq_append_getElem (by rw [List.length_set];exact hl),List.getElem_set_self,List.take_set_of_le (Nat.le_refl _),List.drop_set_of_lt (by omega)];simp [Nat.add_assoc,Nat.add_comm 1]
theorem IJ {w:World} {base e K g n cap o:Nat} {xs cs:List Value} (h:w.ownsRow base e K (.slice (some ⟨g,0,none⟩) n cap) n xs) (ho:o+cs.length<=n*K):
 (w.setCells g o cs).ownsRow base e K (.slice (some ⟨g,0,none⟩) n cap) n (xs.take o++cs++xs.drop (o+cs.length)):=by
 obtain⟨hl,h1⟩:=h;rcases h1 with⟨hv,hn⟩|⟨g',cap',cur,hv,hb,hg,hnc,hm,hs,ht⟩
 ·cases hv
 ·simp only [Value.slice.injEq,Option.some.injEq,Addr.mk.injEq,and_true,true_and] at hv
  obtain⟨rfl,rfl⟩:=hv;have qT:n*K<=cap*K:=Nat.mul_le_mul_right _ hnc;obtain⟨cur',h2,h3⟩:=Vj cs o hg (by omega);have hcl:cur.toList.length=cap*K:=by rw [Array.length_toList,hs]
  refine⟨by simp only [List.length_append,List.length_take,List.length_drop,hl];omega, .inr ⟨g,cap,cur',rfl,hb,h2,hnc,hm,?_,?_⟩⟩
  ·have:=congrArg List.length h3
   simp only [Array.length_toList,List.length_append,List.length_take,List.length_drop] at this;omega
  ·rw [h3,<-ht,List.take_append,List.take_of_length_le (by simp only [List.length_append,List.length_take];omega),List.take_take,Nat.min_eq_left (by omega)]
   congr 1;rw [List.take_drop];congr 2;simp only [List.length_append,List.length_take,hcl];omega
structure aU (T:aA) (a b:World):Prop where
 os:b.os=a.os
 tape:b.tape=a.tape
 output:b.output=a.output
 size:a.heap.size<=b.heap.size
 block:∀k,T k->k<a.heap.size->b.heap[k]? =a.heap[k]?
theorem aU.refl (T:aA) (a:World):aU T a a:=⟨rfl,rfl,rfl,Nat.le_refl _,fun _ _ _=>rfl⟩
theorem aU.trans {T:aA} {a b c:World} (h:aU T a b) (k:aU T b c):aU T a c:=
 ⟨k.os.trans h.os,k.tape.trans h.tape,k.output.trans h.output,Nat.le_trans h.size k.size,fun i hi hl=>(k.block i hi (Nat.lt_of_lt_of_le hl h.size)).trans (h.block i hi hl)⟩
theorem Ext.upd {a b:World} (e:Ext a b) (T:aA):aU T a b:=⟨e.os,e.tape,e.output,e.size,fun k _ hl=>Below.block e k hl⟩
theorem aU.ext {T:aA} {a b c:World} (h:aU T a b) (e:Ext b c):aU T a c:=h.trans (e.upd T)
theorem aU.alloc {T:aA} {a b:World} (h:aU T a b) (o:Obj):aU T a (b.alloc o):=h.ext ((Ext.refl b).alloc o)
theorem aU.drew {T:aA} {a b:World} (h:aU T a b):aU T a b.drew:=h.ext ((Ext.refl b).drew)
theorem aU.drewN {T:aA} {a b:World} (h:aU T a b) (n:Nat):aU T a (b.drewN n):=h.ext ((Ext.refl b).drewN n)
theorem aU.set {T:aA} {a b:World} (h:aU T a b) {p:Addr} (hp:T p.block->a.heap.size<=p.block) (v:Value):aU T a (b.setCell p v):=
 ⟨h.os,h.tape,h.output,Nat.le_trans h.size (Nat.le_of_eq (by simp)),fun k hk hl=>(Below.heap_setCell _ _ _ _ (fun e=>by subst e;have:=hp hk;omega)).trans (h.block k hk hl)⟩
theorem aU.sets {T:aA} {a b:World} (h:aU T a b) {g:Nat} (hg:T g->a.heap.size<=g) (o:Nat) (cs:List Value):aU T a (b.setCells g o cs):=by
 induction cs generalizing b o with
 |nil=>exact h
 |cons c r ih=>exact ih (h.set (p:=⟨g,o,none⟩) hg c) _
theorem aU.grown {T:aA} {a b c:World} (h:aU T a b) {row:Option Nat} (g:b.grownBy c row) (hr:∀k,row=some k->T k->a.heap.size<=k):aU T a c:=
 ⟨g.os.trans h.os,g.tape.trans h.tape,g.output.trans h.output,Nat.le_trans h.size g.size,fun k hk hl=>(g.block k (Nat.lt_of_lt_of_le hl h.size) (fun e=>by have:=hr k e.symm hk;omega)).trans (h.block k hk hl)⟩
theorem aU.kept {T:aA} {a b:World} (h:aU T a b):Kept T a b:=h.block
theorem aU.mono {S T:aA} {a b:World} (h:aU S a b) (k:∀b,T b->S b):aU T a b:=⟨h.os,h.tape,h.output,h.size,fun i hi=>h.block i (k i hi)⟩
theorem aU.to {a b c:World} (e:Ext a b) (h:aU (fun k=>k<a.heap.size) b c):Ext a c:=Below.trans e ⟨h.os,h.tape,h.output,h.size,fun k hk=>h.block k hk (Nat.lt_of_lt_of_le hk e.size)⟩
theorem gP {T:aA} {a b:World} (h:aU T a b:=by with_reducible repeat (first|exact aU.refl _ _|assumption|apply aU.drew|apply aU.drewN|apply aU.alloc|(refine aU.set ?_ ?_ _;rotate_left;(focus(first|(intro _;(first|(simp;done)|(simp;omega)|omega))|(intro h;exact absurd rfl h)|(intro h;exact absurd h (by assumption)))))|(refine aU.ext ?_ (by assumption))|(refine aU.trans ?_ (by assumption)))):aU T a b:=h
theorem aR {w:World} {n:Nat} {vs:Array Value} {T:TypeId} (h:af w n vs T:=by(with_reducible apply af.to);(focus(with_reducible repeat (first|assumption|(apply af.new;(focus(first|rfl|(first|(simp;done)|(simp;omega)|omega))))|apply af.set|(apply af.other;rotate_left;(focus(first|(simp;done)|(simp;omega)|omega));rotate_right)|apply af.alloc|apply af.drew|(apply af.ext;(focus assumption)))));(first|rfl|(simp;done)|(go_light;simp [*];done))):af w n vs T:=h
structure ez (w:World) (P:aA) (r:Nat) (s:Sv) (v:Value) (xs:List Value):Prop where
 box:af w r #[v, .int .i64 s.time, .int .i64 s.last, .int .i64 s.acts] 65
 pr:P r
 own:w.ownsRow 0 46 15 v s.ay.length xs
 row:∀g,v.ownBlock=some g->P g/\g≠r
 cells:fU w (fun b=>P b/\b≠r/\v.ownBlock≠some b) s.ay xs
def Sat (w:World) (P:aA) (r:Nat) (s:Sv):Prop:=∃v xs,ez w P r s v xs
theorem ez.keep {w w':World} {P:aA} {r:Nat} {s:Sv} {v:Value} {xs:List Value} (h:ez w P r s v xs) (e:Kept P w w'):ez w' P r s v xs:=by
 refine⟨?_,h.pr,eo h.own (fun b hb he=>e b (h.row b he).1 hb),h.row,h.cells.keep (fun b hb hl=>e b hb.1 hl) (fun _ h _=>h)⟩;have:=h.box;have hl:=this.lt;unfold af at*;rw [e _ h.pr hl];exact this
theorem ez.ext {w w':World} {P:aA} {r:Nat} {s:Sv} {v:Value} {xs:List Value} (h:ez w P r s v xs) (e:Ext w w'):ez w' P r s v xs:=h.keep (e.kept P)
theorem ez.mono {w:World} {P Q:aA} {r:Nat} {s:Sv} {v:Value} {xs:List Value} (h:ez w P r s v xs) (hq:∀b,P b->Q b):ez w Q r s v xs:=
 ⟨h.box,hq _ h.pr,h.own,fun g hg=>⟨hq _ (h.row g hg).1,(h.row g hg).2⟩,h.cells.keep (fun _ _ _=>rfl) (fun b hb _=>⟨hq _ hb.1,hb.2⟩)⟩
theorem Sat.ext {w w':World} {P:aA} {r:Nat} {s:Sv} (h:Sat w P r s) (e:Ext w w'):Sat w' P r s:=by obtain⟨v,xs,h⟩:=h;exact⟨v,xs,h.ext e⟩
theorem Sat.keep {w w':World} {P:aA} {r:Nat} {s:Sv} (h:Sat w P r s) (e:Kept P w w'):Sat w' P r s:=by obtain⟨v,xs,h⟩:=h;exact⟨v,xs,h.keep e⟩
theorem Sat.mono {w:World} {P Q:aA} {r:Nat} {s:Sv} (h:Sat w P r s) (hq:∀b,P b->Q b):Sat w Q r s:=by obtain⟨v,xs,h⟩:=h;exact⟨v,xs,h.mono hq⟩
theorem ez.old {w:World} {P:aA} {r:Nat} {s:Sv} {v:Value} {xs:List Value} (h:ez w P r s v xs):ez w (fun b=>P b/\b<w.heap.size) r s v xs:=
 ⟨h.box,⟨h.pr,h.box.lt⟩,h.own,fun g hg=>⟨⟨(h.row g hg).1,(h.own.lt g hg).2⟩,(h.row g hg).2⟩,h.cells.keep (fun _ _ _=>rfl) (fun b hb hl=>⟨⟨hb.1,hl⟩,hb.2⟩)⟩
theorem Vh {w:World} {g o n m:Nat} {cs:List Value} (h:∀q u,cs[q]? =some u->w.cell? ⟨g,o+q,none⟩=some u/\w.frozen? ⟨g,o+q,none⟩=false) (hn:m+n<=cs.length):w.there g (o+m) n:=fun j hj=>by
 have:=h (m+j) _ (List.getElem?_eq_getElem (by omega));rw [Nat.add_assoc];exact⟨by rw [this.1];rfl,this.2⟩
theorem ez.thing {w:World} {P:aA} {r:Nat} {s:Sv} {v:Value} {xs:List Value} (h:ez w P r s v xs) {k:Nat} (hk:k<s.ay.length):
 ∃g c ka kc la lc oa oc,v= .slice (some ⟨g,0,none⟩) s.ay.length c/\g<w.heap.size/\g≠r/\P g/\s.ay.length<=c/\ (∀q u,((s.ay[k]).cells ka kc la lc oa oc)[q]? =some u->w.cell? ⟨g,k*15+q,none⟩=some u/\w.frozen? ⟨g,k*15+q,none⟩=false)/\
  kG w (fun b=>P b/\b≠r/\b≠g) s.ay[k] ka kc la lc oa oc:=by
 obtain⟨ka,kc,la,lc,oa,oc,h1,h2⟩:=h.cells.at hk;obtain⟨hl,h3⟩:=h.own;rcases h3 with⟨-,h0⟩|⟨g,cap,cur,rfl,hb,hg,hnc,hm,hs,ht⟩
 ·omega
 ·have hrow:=h.row g rfl
  have hB:af w g cur 46:=hg;refine⟨g,cap,ka,kc,la,lc,oa,oc,rfl,hB.lt,hrow.2,hrow.1,hnc,?_,h2.keep (fun _ _ _=>rfl) (fun b hb _=>⟨hb.1,hb.2.1,fun e=>hb.2.2 (by rw [e];rfl)⟩)⟩;intro q u hq;refine⟨?_,hB.free _⟩;rw [<-h1,List.getElem?_take] at hq
  split at hq
  ·rw [List.getElem?_drop,<-ht,List.getElem?_take] at hq
   split at hq
   ·rw [hB.cells];simpa using hq
   ·cases hq
  ·cases hq
end Go.Proofs.YtlcebdaghmdkeaaGreatDoor
