import Derived.Test.YtlcebdaghmdkeabGreatDoorM11
import Derived.Test.YtlcebdaghmdkeabGreatDoorM12
set_option linter.all false
set_option maxRecDepth 100000
set_option maxHeartbeats 64000000
namespace Go.Proofs.YtlcebdaghmdkeabGreatDoor
open Go.Proofs.Tryz
open Go.RowKit
attribute [local go_sem↓] Go.wp_at_zero Go.wp_at_succ
theorem ac5:(prog.info? 82).map (fun i=>(i.zero,i.size,i.bytes))=some (some (.agg #[.int .i64 0, .int .i64 0]),2,16):=by kernel_rfl
def ql (xs:List (Int×Int)):List Value:=xs.flatMap fun x=> [.int .i64 x.1, .int .i64 x.2]
theorem ac6 (xs:List (Int×Int)):∀i,i<xs.length-> (ql xs)[i*2]? =some (.int .i64 (xs.getD i (0,0)).1)/\ (ql xs)[i*2+1]? =some (.int .i64 (xs.getD i (0,0)).2):=by
 induction xs with
 |nil=>intro i hi;simp at hi
 |cons x r ih=>
  intro i hi
  cases i with
  |zero=>simp [ql]
  |succ i=>
   have:=ih i (by simpa using hi);simp only [ql,List.flatMap_cons,List.cons_append,List.nil_append] at this⊢;rw [show (i+1)*2=i*2+1+1 from by omega,show i*2+1+1+1=(i*2+1)+1+1 from by omega];simpa using this
theorem ac7 {w:World} {base:Nat} {a:aq} {n c:Nat} {xs:List (Int×Int)} (h:w.ownsRow base 82 2 (.slice a n c) n (ql xs)) (hn:xs.length=n):StepsIn w a xs:=by
 obtain⟨hl,h⟩:=h;rcases h with⟨-,h0⟩|⟨g,cap,cur,hv,hb,hg,hnc,hcm,hcs,ht⟩
 ·subst h0
  exact .inl (List.length_eq_zero_iff.1 hn)
 ·simp only [Value.slice.injEq] at hv
  obtain⟨rfl,-,rfl⟩:=hv;refine .inr ⟨g,0,rfl,fun i hi=> ?_⟩;have hx:∀j u,(ql xs)[j]? =some u->w.cell? ⟨g,j,none⟩=some u:=by
   intro j u hj;rw [cell_of_row w g j cur _ _ hg];rw [<-ht,List.getElem?_take] at hj
   split at hj
   ·simpa using hj
   ·cases hj
  obtain⟨s0,s1⟩:=ac6 xs i hi;rw [Nat.zero_add];exact⟨hx _ _ s0,hx _ _ s1⟩
abbrev tE:ah:=⟨#[105,109,97,103,101]⟩
abbrev uN:ah:=⟨#[115,116,101,112,115]⟩
abbrev LJ:ah:=⟨#[112,97,117,115,101]⟩
def stepOf (x:V):Option (Int×Int):=
 if x.k=5 then(match x.member LJ with
  |some p=>if p.k=2/\0<=p.n/\lV (-1) p.n=true then some (-1,p.n) else none
  |none=>none)
 else if x.k=2/\0<=x.n/\lV x.n 0=true then some (x.n,0) else none
def mP:List V->Option (List (Int×Int))
 | []=>some []
 |x::r=>match stepOf x,mP r with
  |some p,some l=>some (p::l)
  |_,_=>none
theorem AG {l:List V} {k:Nat} (h:k<l.length) (hb:stepOf l[k]=none):mP l=none:=by
 induction l generalizing k with
 |nil=>simp at h
 |cons x r ih=>
  cases k with
  |zero=>simp only [List.getElem_cons_zero] at hb;simp [mP,hb]
  |succ k=>simp only [List.getElem_cons_succ] at hb;rw [mP,ih (by simpa using h) hb];cases stepOf x<;>rfl
def uO (l:List V) (k:Nat) (xs:List (Int×Int)):Prop:=xs.length=k/\∀i,(h:i<l.length)->i<k->∃p,stepOf l[i]=some p/\xs[i]? =some p
theorem uO.nil (l:List V):uO l 0 []:=⟨rfl,fun i _ h=>by omega⟩
theorem uO.snoc {l:List V} {k:Nat} {xs:List (Int×Int)} (h:uO l k xs) (hk:k<l.length) {p:Int×Int} (hp:stepOf l[k]=some p):uO l (k+1) (xs++ [p]):=by
 obtain⟨h1,h2⟩:=h;refine⟨by simp [h1],fun i hi hk'=> ?_⟩;by_cases e:i=k
 ·subst e;exact⟨p,hp,by rw [List.getElem?_append_right (by omega)];simp [h1]⟩
 ·obtain⟨q,hq,hx⟩:=h2 i hi (by omega)
  exact⟨q,hq,by rw [List.getElem?_append_left (by omega)];exact hx⟩
theorem uO.all {l:List V} {xs:List (Int×Int)} (h:uO l l.length xs):mP l=some xs:=by
 induction l generalizing xs with
 |nil=>obtain⟨h,-⟩:=h;simp at h;subst h;rfl
 |cons x r ih=>
  obtain⟨h1,h2⟩:=h;obtain⟨p,hp,hx⟩:=h2 0 (by simp) (by simp)
  cases xs with
  |nil=>simp at h1
  |cons y ys=>
   simp only [List.getElem?_cons_zero,Option.some.injEq] at hx;subst hx;simp only [List.getElem_cons_zero] at hp;rw [mP,hp,ih (xs:=ys) ⟨by simpa using h1,fun i hi hk=>by have:=h2 (i+1) (by simpa using hi) (by simpa using hi);simpa using this⟩]
theorem Sz (xs:List (Int×Int)) (a b:Int):ql (xs++ [(a,b)])=ql xs++ [.int .i64 a, .int .i64 b]:=by simp [ql]
def dD (x:V):Option (ah×List (Int×Int)):=
 if x.fine=true then(match x.member tE with
  |none=>none
  |some i=>if i.k=3/\i.s.toList≠ [] then(match x.member uN with
    |none=>some (i.s, [])
    |some t=>if t.k=4/\t.l.length<=8 then(match mP t.l with
      |some xs=>some (i.s,xs)
      |none=>none) else none)
   else none)
 else none
def uK (r:Option (ah×List (Int×Int))) (w:World) (e:Ending) (w':World):Prop:=
 (∃im xs a n c,r=some (im,xs)/\xs.length=n/\e= .returned (.tuple #[.agg #[.string im, .slice a n c], .int .i64 0])/\StepsIn w' a xs/\ (∀p:Addr,a=some p->w.heap.size<=p.block)/\Ext w w')\/
 (r=none/\e= .returned (.tuple #[.agg #[.string ⟨#[]⟩, .slice none 0 0], .int .i64 1])/\Ext w w')
theorem SA {x y:V} {key:ah} (h:x.member key=some y):y.size<x.size:=by
 obtain⟨j,a,rfl⟩:=PD h;exact V.oZ a.lt
def mN (r:Option (ah×List (Int×Int))):ah:=match r with|some p=>p.1|none=>⟨#[]⟩
def ia (r:Option (ah×List (Int×Int))):List (Int×Int):=match r with|some p=>p.2|none=> []
def yS (r:Option (ah×List (Int×Int))):Int:=match r with|some _=>0|none=>1
def wL (im:ah) (xs:List (Int×Int)):St:=if j5 im xs then⟨im,im,1,0,100,0⟩ else⟨⟨#[]⟩,⟨#[]⟩,0,0,0,0⟩
def LG (im:ah) (xs:List (Int×Int)):Int:=if j5 im xs then 0 else 1
end Go.Proofs.YtlcebdaghmdkeabGreatDoor
namespace Go.Proofs.YtlcebdaghmdkeabGreatDoor
open Go.Proofs.Tryz
open Go.RowKit
theorem M6:prog.globalNamed "stairwell/patch.names" =some 1:=by kernel_rfl
theorem VK:(prog.globals[1]?).map (·.type)=some 232:=by kernel_rfl
theorem VL:prog.cellsOf 232=7:=by kernel_rfl
theorem VM {H:Type} {enc:TypeId×Value->H} {P:Program} {w:World} {base:Nat} {sp:Nat->Bool} {held:Bool} {fuel:Nat} {t e:TypeId} {n:Nat} {cs:List Value} {zs:List (List UInt8)} {p:List MemPlace}
 (ht:P.underlying t=some (.array n e)) (he:P.underlying e=some .string) (hce:P.cellsOf e=1) (hct:P.cellsOf t=n)
 (h:DataW.trod enc P w base sp held fuel t cs=some (.agg (zs.map fun z=> .lit (.string z)),p)):cs=zs.map fun z=>Value.string ⟨z.toArray⟩:=by
 cases fuel with
 |zero=>simp [DataW.trod] at h
 |succ fuel=>
  simp only [DataW.trod,ht,hce,hct,Nat.mul_one] at h
  split at h
  ·rename_i hl
   obtain⟨xs,hm,hx⟩:=Option.map_eq_some_iff.1 h;have hxs:xs.map (·.1)=zs.map fun z=>(DataW.lit (.string z):DataW H):=by have:=congrArg Prod.fst hx;simpa using this
   have hxl:xs.length=n:=by simpa using Lib.mapM_length hm
   have hzl:zs.length=n:=by have:=congrArg List.length hxs;simp only [List.length_map] at this;omega
   apply List.ext_getElem?;intro i;by_cases hi:i<n
   ·obtain⟨b,hb,hf⟩:=Lib.mapM_at hm i i (by simp [hi])
    obtain⟨z,hc,rfl,_⟩:=DataW.trod_string he hf;have h1:cs[i]? =some (.string z):=by have:=congrArg (·[0]?) hc;simpa [List.getElem?_take,List.getElem?_drop] using this
    have h2:(xs.map (·.1))[i]? =some (DataW.lit (.string z.data.toList):DataW H):=by simp [hb]
    rw [hxs] at h2;simp only [List.getElem?_map,Option.map_eq_some_iff,DataW.lit.injEq,Lit.string.injEq] at h2;obtain⟨z',hz',hz2⟩:=h2;rw [h1,List.getElem?_map,hz',hz2];simp
   ·rw [List.getElem?_eq_none (by omega),List.getElem?_eq_none (by simp;omega)]
  ·cases h
theorem VN {W:World} {rest:List (String×DataW Unit)} (h:laidMet prog (("stairwell/patch.names",Rows.laid_stairwell_patch_names)::rest) W):qJ W:=by
 obtain⟨ps,⟨g',t',cs,fuel,p,q,hg',ht',hvar,hd,_,_⟩,_⟩:=h;obtain rfl:=Option.some.inj (M6.symm.trans hg');obtain rfl:=Option.some.inj (VK.symm.trans ht');have hc:=VM (zs:= [[], [97,100,100], [114,101,109,111,118,101], [114,101,112,108,97,99,101], [109,111,118,101], [99,111,112,121], [116,101,115,116]]) underlying232 underlying9 G9 VL hd;intro i hi;have h0:=World.var?_cell M6 hvar i;rw [show cs=cs.toList.toArray by simp,hc] at h0
 match i,hi with
 |0,_=>simpa [pN,uY] using h0
 |1,_=>simpa [pN,uY] using h0
 |2,_=>simpa [pN,uY] using h0
 |3,_=>simpa [pN,uY] using h0
 |4,_=>simpa [pN,uY] using h0
 |5,_=>simpa [pN,uY] using h0
 |6,_=>simpa [pN,uY] using h0
end Go.Proofs.YtlcebdaghmdkeabGreatDoor
namespace Go.Proofs.YtlcebdaghmdkeabGreatDoor
open Go.RowKit
def Ss (xs:List (Int×Int)) (now:Int) (s:St) (o:Int) (k:Nat) (r:St):Prop:=
 r=pE s.cm\/∃(j:Nat) (hj:j<xs.length) (wt si:Int),k<=j/\xs[j].1<0/\r=⟨s.sb,s.cm,3,j,wt,si⟩/\ (wt=s.wt\/∃x∈xs,wt=x.1/\0<=x.1)/\
  (si=now\/ (j=k/\s.ph=3/\o≠1/\si=s.si/\wt=s.wt/\ (xs[j].2=0\/now<si\/now-si<xs[j].2)))
theorem Gd (xs:List (Int×Int)) (now:Int) (n:Nat):∀(k:Nat) (s:St) (o:Int),xs.length-k<=n->s.sp=k->Ss xs now s o k (qj now (xs.drop k) s o):=by
 induction n with
 |zero=>
  intro k s o hk _;rw [List.drop_of_length_le (by omega)];exact .inl rfl
 |succ n ih=>
  intro k s o hk hs;by_cases hlt:k<xs.length
  ·have step:∀(wt:Int) (o':Int),(wt=s.wt\/∃x∈xs,wt=x.1/\0<=x.1)->Ss xs now s o k (qj now (xs.drop (k+1)) ⟨s.sb,s.cm,2,s.sp+1,wt,0⟩ o'):=by
    intro wt o' hw;rcases ih (k+1) ⟨s.sb,s.cm,2,s.sp+1,wt,0⟩ o' (by omega) (by simp [hs]) with h|⟨j,hj,tD,mO,hkj,hx,hr,hw',fS⟩
    ·exact .inl h
    ·refine .inr ⟨j,hj,tD,mO,by omega,hx,hr,?_,?_⟩
     ·rcases hw' with h|h
      ·exact h▸hw
      ·exact .inr h
     ·rcases fS with h|h
      ·exact .inl h
      ·exact absurd h.2.1 (by simp)
   rw [List.drop_eq_getElem_cons hlt,qj]
   split
   ·rename_i h0
    exact step xs[k].1 o (.inr ⟨xs[k],List.getElem_mem hlt,rfl,h0⟩)
   ·rename_i h0
    split
    ·exact .inr ⟨k,hlt,s.wt,now,Nat.le_refl _,by omega,by simp [hs], .inl rfl, .inl rfl⟩
    ·rename_i h3
     have h3:s.ph=3:=by simpa using h3
     split
     ·exact step s.wt 0 (.inl rfl)
     ·rename_i ho
      split
      ·rename_i hw
       exact .inr ⟨k,hlt,s.wt,s.si,Nat.le_refl _,by omega,by cases s;simp_all, .inl rfl, .inr ⟨rfl,h3,ho,rfl,rfl,hw⟩⟩
      ·exact step s.wt o (.inl rfl)
  ·rw [List.drop_of_length_le (by omega)]
   exact .inl rfl
theorem Sw {im:ah} {xs:List (Int×Int)} (hG:j5 im xs=true):im.toList≠ []/\im.size<=60/\xs.length<=8/\∀x∈xs,lV x.1 x.2=true:=by
 simp only [j5,oQ,Bool.and_eq_true,decide_eq_true_eq,List.all_eq_true] at hG;exact⟨hG.1.1.1,hG.1.1.2,hG.1.2,hG.2⟩
theorem Sy {im:ah} {xs:List (Int×Int)} {s:St} {now o:Int} {r:St} (h:fy im xs s now o=(r,0)):
 j5 im xs=true/\iG s=true/\0<=now/\now<=1099511627776/\0<=o/\o<=3/\
 ((im.toList≠s.cm.toList/\im.toList=s.sb.toList/\r=pE s.sb)\/
  (¬(im.toList≠s.cm.toList/\im.toList=s.sb.toList)/\
   (((cO im s).ph≠2/\ (cO im s).ph≠3/\r=cO im s)\/
    (((cO im s).ph=2\/ (cO im s).ph=3)/\
     ((o=2/\r=pE (cO im s).cm)\/ (o=3/\r=⟨(cO im s).sb,(cO im s).cm,4,0,0,0⟩)\/
      (o<=1/\r=qj now (xs.drop (cO im s).sp.toNat) (cO im s) o)))))):=by
 unfold fy at h
 repeat' split at h
 all_goals simp only [Prod.mk.injEq] at h
 all_goals grind
theorem ac4 {im:ah} {xs:List (Int×Int)} {s:St} {now o:Int} (hG:j5 im xs=true) (hT:iG s=true) (h0:0<=now) (h1:now<=1099511627776) (ho0:0<=o) (rA:o<=3):
 (fy im xs s now o).2=0:=by
 unfold fy
 grind
theorem LI {im:ah} {xs:List (Int×Int)} {s:St} {now o:Int} {r:St} (h:fy im xs s now o=(r,0)):iG r=true:=by
 obtain⟨hG,hT,h0,h1,ho0,rA,hc⟩:=Sy h;obtain⟨g1,g2,g3,g4⟩:=Sw hG;have hT':=hT;simp only [iG,decide_eq_true_eq] at hT';rcases hc with⟨ha,hb,rfl⟩|⟨ha,⟨hp2,uM,rfl⟩|⟨hp,⟨rfl,rfl⟩|⟨rfl,rfl⟩|⟨ho,hr⟩⟩⟩
 ·simp only [iG,pE];grind
 ·simp only [iG,cO] at*;grind
 ·simp only [iG,pE,cO] at*;grind
 ·simp only [iG,cO] at*;grind
 ·have hsp:0<= (cO im s).sp:=by simp only [cO] at*;grind
  obtain⟨k,hk⟩:=Int.eq_ofNat_of_zero_le hsp;have hk':(cO im s).sp.toNat=k:=by omega
  rw [hk'] at hr;have he:=Gd xs now _ k (cO im s) o (Nat.le_refl _) hk;rw [<-hr] at he;rcases he with h|⟨j,hj,wt,si,hkj,hx,yT,hw,fS⟩
  ·rw [h];simp only [iG,pE,cO] at*;grind
  ·have hgj:=g4 xs[j] (List.getElem_mem hj)
   have hwb:0<=wt/\wt<=100:=by
    rcases hw with h|⟨x,Ge,h,h0⟩
    ·simp only [cO] at*;grind
    ·have:=g4 x Ge;simp only [lV] at this;grind
   have AE:0<=si/\si<=1099511627776:=by
    rcases fS with h|h
    ·omega
    ·simp only [cO] at*;grind
   rw [yT];simp only [iG,cO] at*;grind
end Go.Proofs.YtlcebdaghmdkeabGreatDoor
namespace Go.Proofs.YtlcebdaghmdkeabGreatDoor
structure Th where
 name:ah
 v:V
 ows:List Ow
 ver:Int
 gen:Int
 st:St
structure Sv where
 az:List Th
 time:Int
 last:Int
 acts:Int
structure Ac where
 k:Int
 name:ah
 who:ah
 body:ah
 ver:Int
 n:Int
 ord:Int
 force:Bool
structure Rp where
 c:Int
 n:Int
 b:ah
abbrev lG (w:World) (a:Nat) (t:Th) (ka:aq) (kc:Nat) (la:aq) (lc:Nat) (oa:aq) (oc:Nat):Prop:=af w a #[.string t.name, .int .i64 t.v.k, .int .i64 t.v.n, .string t.v.s, .slice ka t.v.keys.length kc, .slice la t.v.l.length lc, .slice oa t.ows.length oc, .int .i64 t.ver, .int .i64 t.gen, .string t.st.sb, .string t.st.cm, .int .i64 t.st.ph, .int .i64 t.st.sp, .int .i64 t.st.wt, .int .i64 t.st.si] 41
abbrev uS (w:World) (a:Nat) (x:Ac):Prop:=af w a #[.int .i64 x.k, .string x.name, .string x.who, .string x.body, .int .i64 x.ver, .int .i64 x.n, .int .i64 x.ord, .bool x.force] 28
abbrev iU (w:World) (a:Nat):Prop:=af w a #[.int .i64 0, .int .i64 0, .string ⟨#[]⟩] 31
def Rp.no (e:Int):Rp:=⟨e,0,⟨#[]⟩⟩
def Rp.num (n:Int):Rp:=⟨0,n,⟨#[]⟩⟩
def Mp (a b:Ow):Bool:=decide (a.name=b.name)&&decide (a.paths=b.paths)
def wU:List Ow->List Ow->Bool
 | [], []=>true
 |a::l,b::m=>Mp a b&&wU l m
 |_,_=>false
theorem ad8 (a b:Ow):Mp a b=true↔a=b:=by
 cases a;cases b;simp [Mp]
theorem TP:∀(l m:List Ow),wU l m=true↔l=m
 | [], []=>by simp [wU]
 | [],_::_=>by simp [wU]
 |_::_, []=>by simp [wU]
 |a::l,b::m=>by simp only [wU,Bool.and_eq_true,ad8,TP l m,List.cons.injEq]
def og (v b:V) (k:Int):V×Int:=
 if k=3 then ma v b else if k=4 then(if(jE b).2=0 then kB v (jE b).1 else(b,(jE b).2)) else(b,0)
def cR (v:V) (ows:List Ow) (a:Ac):V×List Ow×Int:=
 if(ek a.body.data.toList).2≠0 then(v,ows,(ek a.body.data.toList).2)
 else if a.k=5 then((ju v ows a.who (ek a.body.data.toList).1 a.force).1,(ju v ows a.who (ek a.body.data.toList).1 a.force).2.1,(ju v ows a.who (ek a.body.data.toList).1 a.force).2.2.2)
 else((og v (ek a.body.data.toList).1 a.k).1,mH (og v (ek a.body.data.toList).1 a.k).1 ows,(og v (ek a.body.data.toList).1 a.k).2)
def Th.next (t:Th) (time o:Int):St×Int:=fy (mN (dD t.v)) (ia (dD t.v)) t.st time o
def Th.ord (t:Th) (time o:Int):Th:=if(t.next time o).2=0 then {t with st:=(t.next time o).1} else t
def Th.other (t:Th) (v:V):Bool:=decide (t.ver=0)|| !v.same t.v
def Th.turn (t:Th) (v:V) (ows:List Ow):Bool:=t.other v|| !wU ows t.ows
def Th.kept (t:Th) (v:V) (ows:List Ow) (time last:Int):Th:=
 ⟨t.name,v,ows,if t.turn v ows then last+1 else t.ver,if t.other v then t.gen+1 else t.gen,(fy (mN (dD v)) (ia (dD v)) t.st time 0).1⟩
def oU (s:Sv) (k:Nat) (t:Th) (v:V) (ows:List Ow):Sv×Rp:=
 if dD v=none then(s, .no 1)
 else(⟨s.az.set k (t.kept v ows s.time s.last),s.time,if t.turn v ows then s.last+1 else s.last,s.acts⟩, .num (t.kept v ows s.time s.last).ver)
def eU (l:List Th) (name:ah):Nat:=posOf (l.map Th.name) name
def gj (l:List Th) (name:ah):Bool:=hasB (l.map Th.name) name
def oW (name:ah) (v:V):Th:=⟨name,V.bV, [],0,0,wL (mN (dD v)) (ia (dD v))⟩
def qw (s:Sv) (a:Ac) (k:Nat) (there:Bool):Sv×Rp:=
 if there=true then(s, .no 6)
 else if 8<=s.az.length then(s, .no 10)
 else if(cR V.bV [] a).2.2≠0 then(s, .no (cR V.bV [] a).2.2)
 else if dD (cR V.bV [] a).1=none then(s, .no 1)
 else oU {s with az:=s.az.take k++oW a.name (cR V.bV [] a).1::s.az.drop k} k (oW a.name (cR V.bV [] a).1) (cR V.bV [] a).1 (cR V.bV [] a).2.1
def nZ (s:Sv) (n:Int):Sv×Rp:=
 if n<1\/1099511627776-s.time<n then(s, .no 8)
 else({s with az:=s.az.map fun t=>t.ord (s.time+n) 0,time:=s.time+n}, .no 0)
def wP (s:Sv) (k:Nat) (t:Th) (o:Int):Sv×Rp:=
 if(t.next s.time o).2≠0 then(s, .no (t.next s.time o).2) else({s with az:=s.az.set k (t.ord s.time o)}, .num (t.next s.time o).1.ph)
def Dy (t:Th):Rp:=if(kS t.v).2≠0 then .no (kS t.v).2 else⟨0,t.ver,⟨(kS t.v).1.toArray⟩⟩
def tJ (s:Sv) (k:Nat) (t:Th) (a:Ac):Sv×Rp:=
 if a.k=6 then({s with az:=s.az.take k++s.az.drop (k+1)}, .num t.ver)
 else if a.k=9 then(s,Dy t)
 else if a.k=7 then wP s k t a.ord
 else if a.k≠5/\a.ver≠0/\a.ver≠t.ver then(s, .no 7)
 else if(cR t.v t.ows a).2.2≠0 then(s, .no (cR t.v t.ows a).2.2)
 else oU s k t (cR t.v t.ows a).1 (cR t.v t.ows a).2.1
def Dx (s:Sv) (a:Ac):Sv×Rp:=
 if a.k<1\/9<a.k then(s, .no 9)
 else if a.k=8 then nZ s a.n
 else if gH a.name=false then(s, .no 1)
 else if a.k=1\/ (a.k=5/\gj s.az a.name=false) then qw s a (eU s.az a.name) (gj s.az a.name)
 else if gj s.az a.name=false then(s, .no 3)
 else match s.az[eU s.az a.name]? with
  |some t=>tJ s (eU s.az a.name) t a
  |none=>(s, .no 3)
def ck (s:Sv) (a:Ac):Sv×Rp:=if 300<=s.acts then(s, .no 10) else Dx {s with acts:=s.acts+1} a
def dO:Sv:=⟨[],0,0,0⟩
def kG (s:Sv) (l:List Ac):Sv:=l.foldl (fun s a=>(ck s a).1) s
end Go.Proofs.YtlcebdaghmdkeabGreatDoor
namespace Go.Proofs.YtlcebdaghmdkeabGreatDoor
open Go.Proofs.Tryz
open Go.RowKit
theorem Tryz.A2:(prog.info? 41).map (fun i=>(i.zero,i.size,i.bytes))=some (some (.agg #[.string ⟨#[]⟩, .int .i64 0, .int .i64 0, .string ⟨#[]⟩, .slice none 0 0, .slice none 0 0, .slice none 0 0, .int .i64 0, .int .i64 0, .string ⟨#[]⟩, .string ⟨#[]⟩, .int .i64 0, .int .i64 0, .int .i64 0, .int .i64 0]),15,200):=by kernel_rfl
theorem Tryz.ad4:(prog.info? 41).map (·.size)=some 15:=by kernel_rfl
theorem Tryz.ad5:(prog.info? 39).map (·.size)=some 6:=by kernel_rfl
def Th.cells (t:Th) (ka:aq) (kc:Nat) (la:aq) (lc:Nat) (oa:aq) (oc:Nat):List Value:= [.string t.name, .int .i64 t.v.k, .int .i64 t.v.n, .string t.v.s, .slice ka t.v.keys.length kc, .slice la t.v.l.length lc, .slice oa t.ows.length oc, .int .i64 t.ver, .int .i64 t.gen, .string t.st.sb, .string t.st.cm, .int .i64 t.st.ph, .int .i64 t.st.sp, .int .i64 t.st.wt, .int .i64 t.st.si]
theorem Th.tG (t:Th) (ka:aq) (kc:Nat) (la:aq) (lc:Nat) (oa:aq) (oc:Nat):(t.cells ka kc la lc oa oc).length=15:=rfl
theorem Th.Gj (t:Th) (ka:aq) (kc:Nat) (la:aq) (lc:Nat) (oa:aq) (oc:Nat):∀u∈t.cells ka kc la lc oa oc,u.oneCell'=true:=by
 intro u hu;simp only [Th.cells,List.mem_cons,List.not_mem_nil,or_false] at hu;rcases hu with rfl|rfl|rfl|rfl|rfl|rfl|rfl|rfl|rfl|rfl|rfl|rfl|rfl|rfl|rfl<;>rfl
structure kZ (w:World) (T:aw) (t:Th) (ka:aq) (kc:Nat) (la:aq) (lc:Nat) (oa:aq) (oc:Nat):Prop where
 v:t.v.In w T ka kc la lc
 ok:aM oa t.ows.length oc
 ows:cj w T t.ows oa
theorem kZ.keep {S T:aw} {w w':World} {t:Th} {ka:aq} {kc:Nat} {la:aq} {lc:Nat} {oa:aq} {oc:Nat} (h:kZ w S t ka kc la lc oa oc) (hk:Kept S w w') (hT:∀b,S b->b<w.heap.size->T b):kZ w' T t ka kc la lc oa oc:=
 ⟨h.v.keep hk hT,h.ok,h.ows.keep hk hT⟩
def fA (w:World) (T:aw):List Th->List Value->Prop
 | [],xs=>xs= []
 |x::r,xs=>∃ka kc la lc oa oc t,xs=x.cells ka kc la lc oa oc++t/\kZ w T x ka kc la lc oa oc/\fA w T r t
theorem fA.keep {S T:aw} {w w':World} {l:List Th} {xs:List Value} (h:fA w S l xs) (hk:Kept S w w') (hT:∀b,S b->b<w.heap.size->T b):fA w' T l xs:=by
 induction l generalizing xs with
 |nil=>exact h
 |cons x r ih=>
  obtain⟨ka,kc,la,lc,oa,oc,t,rfl,h1,h2⟩:=h;exact⟨ka,kc,la,lc,oa,oc,t,rfl,h1.keep hk hT,ih h2⟩
theorem fA.one {w:World} {T:aw} {l:List Th} {xs:List Value} (h:fA w T l xs):∀u∈xs,u.oneCell'=true:=by
 induction l generalizing xs with
 |nil=>subst h;simp
 |cons y r ih=>
  obtain⟨a,b,c,d,e,f,t,rfl,h1,h2⟩:=h;intro u hu;rcases List.mem_append.1 hu with hu|hu
  ·exact Th.Gj _ _ _ _ _ _ _ u hu
  ·exact ih h2 u hu
theorem fA.app {w:World} {T:aw} {l m:List Th} {xs ys:List Value} (h:fA w T l xs) (k:fA w T m ys):fA w T (l++m) (xs++ys):=by
 induction l generalizing xs with
 |nil=>subst h;exact k
 |cons y r ih=>
  obtain⟨a,b,c,d,e,f,t,rfl,h1,h2⟩:=h;exact⟨a,b,c,d,e,f,_,by rw [List.append_assoc],h1,ih h2⟩
theorem fA.cut {w:World} {T:aw} {l:List Th} {xs:List Value} (h:fA w T l xs) (k:Nat):fA w T (l.take k) (xs.take (k*15))/\fA w T (l.drop k) (xs.drop (k*15)):=by
 induction l generalizing xs k with
 |nil=>subst h;simp [fA]
 |cons y r ih=>
  match k with
  |0=>simpa [fA] using h
  |k+1=>
   obtain⟨a,b,c,d,e,f,t,rfl,h1,h2⟩:=h;obtain⟨h3,h4⟩:=ih h2 k;have hl:=y.tG a b c d e f;constructor
   ·refine⟨a,b,c,d,e,f,_,?_,h1,h3⟩
    rw [List.take_append,hl,List.take_of_length_le (by omega),show (k+1)*15-15=k*15 by omega]
   ·show fA w T (r.drop k) _
    rw [List.drop_append,hl,List.drop_of_length_le (l:=y.cells a b c d e f) (by omega),show (k+1)*15-15=k*15 by omega];exact h4
theorem fA.ins {w:World} {T:aw} {l:List Th} {xs:List Value} (h:fA w T l xs) (k j:Nat) {t:Th} {ka:aq} {kc:Nat} {la:aq} {lc:Nat} {oa:aq} {oc:Nat} (ht:kZ w T t ka kc la lc oa oc):
 fA w T (l.take k++t::l.drop j) (xs.take (k*15)++t.cells ka kc la lc oa oc++xs.drop (j*15)):=by
 rw [List.append_assoc];exact(h.cut k).1.app ⟨ka,kc,la,lc,oa,oc,_,rfl,ht,(h.cut j).2⟩
theorem fA.at {w:World} {T:aw} {l:List Th} {xs:List Value} (h:fA w T l xs) {i:Nat} (hi:i<l.length):∃ka kc la lc oa oc,(xs.drop (i*15)).take 15=l[i].cells ka kc la lc oa oc/\kZ w T l[i] ka kc la lc oa oc:=by
 have h1:=(h.cut i).2;rw [List.drop_eq_getElem_cons hi] at h1;obtain⟨a,b,c,d,e,f,t,h2,h3,-⟩:=h1;exact⟨a,b,c,d,e,f,by rw [h2,List.take_append_of_le_length (by rw [Th.tG];omega),List.take_of_length_le (by rw [Th.tG];omega)],h3⟩
theorem TS {T:TypeId} {g:Nat}:∀(cs:List Value) {w:World} {cur:Array Value} (o:Nat),af w g cur T->o+cs.length<=cur.size->∃cur':Array Value,af (w.setCells g o cs) g cur' T/\cur'.toList=cur.toList.take o++cs++cur.toList.drop (o+cs.length)
 | [],w,cur,o,h,_=>⟨cur,h,by simp⟩
 |c::r,w,cur,o,h,hs=>by
  have hs':o+(r.length+1)<=cur.size:=by simpa using hs
  obtain⟨cur',h1,h2⟩:=TS r (o+1) (h.set o c) (by simpa using (show o+1+r.length<=cur.size by omega));refine⟨cur',h1,?_⟩;have hl:o<cur.toList.length:=by rw [Array.length_toList];omega
  rw [h2,Array.toList_setIfInBounds,List.take_succ_eq_append_getElem (by rw [List.length_set];exact hl),List.getElem_set_self,List.take_set_of_le (Nat.le_refl _),List.drop_set_of_lt (by omega)];simp [Nat.add_assoc,Nat.add_comm 1]
theorem AJ {w:World} {base e K g n cap o:Nat} {xs cs:List Value} (h:w.ownsRow base e K (.slice (some ⟨g,0,none⟩) n cap) n xs) (ho:o+cs.length<=n*K):
 (w.setCells g o cs).ownsRow base e K (.slice (some ⟨g,0,none⟩) n cap) n (xs.take o++cs++xs.drop (o+cs.length)):=by
 obtain⟨hl,h1⟩:=h;rcases h1 with⟨hv,hn⟩|⟨g',cap',cur,hv,hb,hg,hnc,hm,hs,ht⟩
 ·cases hv
 ·simp only [Value.slice.injEq,Option.some.injEq,Addr.mk.injEq,and_true,true_and] at hv
  obtain⟨rfl,rfl⟩:=hv;have qi:n*K<=cap*K:=Nat.mul_le_mul_right _ hnc;obtain⟨cur',h2,h3⟩:=TS cs o hg (by omega);have hcl:cur.toList.length=cap*K:=by rw [Array.length_toList,hs]
  refine⟨by simp only [List.length_append,List.length_take,List.length_drop,hl];omega, .inr ⟨g,cap,cur',rfl,hb,h2,hnc,hm,?_,?_⟩⟩
  ·have:=congrArg List.length h3
   simp only [Array.length_toList,List.length_append,List.length_take,List.length_drop] at this;omega
  ·rw [h3,<-ht,List.take_append,List.take_of_length_le (by simp only [List.length_append,List.length_take];omega),List.take_take,Nat.min_eq_left (by omega)]
   congr 1;rw [List.take_drop];congr 2;simp only [List.length_append,List.length_take,hcl];omega
structure aQ (T:aw) (a b:World):Prop where
 os:b.os=a.os
 tape:b.tape=a.tape
 output:b.output=a.output
 size:a.heap.size<=b.heap.size
 block:∀k,T k->k<a.heap.size->b.heap[k]? =a.heap[k]?
theorem aQ.refl (T:aw) (a:World):aQ T a a:=⟨rfl,rfl,rfl,Nat.le_refl _,fun _ _ _=>rfl⟩
theorem aQ.trans {T:aw} {a b c:World} (h:aQ T a b) (k:aQ T b c):aQ T a c:=
 ⟨k.os.trans h.os,k.tape.trans h.tape,k.output.trans h.output,Nat.le_trans h.size k.size,fun i hi hl=>(k.block i hi (Nat.lt_of_lt_of_le hl h.size)).trans (h.block i hi hl)⟩
theorem Ext.upd {a b:World} (e:Ext a b) (T:aw):aQ T a b:=⟨e.os,e.tape,e.output,e.size,fun k _ hl=>Below.block e k hl⟩
theorem aQ.ext {T:aw} {a b c:World} (h:aQ T a b) (e:Ext b c):aQ T a c:=h.trans (e.upd T)
theorem aQ.alloc {T:aw} {a b:World} (h:aQ T a b) (o:Obj):aQ T a (b.alloc o):=h.ext ((Ext.refl b).alloc o)
theorem aQ.drew {T:aw} {a b:World} (h:aQ T a b):aQ T a b.drew:=h.ext ((Ext.refl b).drew)
theorem aQ.drewN {T:aw} {a b:World} (h:aQ T a b) (n:Nat):aQ T a (b.drewN n):=h.ext ((Ext.refl b).drewN n)
theorem aQ.set {T:aw} {a b:World} (h:aQ T a b) {p:Addr} (hp:T p.block->a.heap.size<=p.block) (v:Value):aQ T a (b.setCell p v):=
 ⟨h.os,h.tape,h.output,Nat.le_trans h.size (Nat.le_of_eq (by simp)),fun k hk hl=>(Below.heap_setCell _ _ _ _ (fun e=>by subst e;have:=hp hk;omega)).trans (h.block k hk hl)⟩
theorem aQ.sets {T:aw} {a b:World} (h:aQ T a b) {g:Nat} (hg:T g->a.heap.size<=g) (o:Nat) (cs:List Value):aQ T a (b.setCells g o cs):=by
 induction cs generalizing b o with
 |nil=>exact h
 |cons c r ih=>exact ih (h.set (p:=⟨g,o,none⟩) hg c) _
theorem aQ.grown {T:aw} {a b c:World} (h:aQ T a b) {row:Option Nat} (g:b.grownBy c row) (hr:∀k,row=some k->T k->a.heap.size<=k):aQ T a c:=
 ⟨g.os.trans h.os,g.tape.trans h.tape,g.output.trans h.output,Nat.le_trans h.size g.size,fun k hk hl=>(g.block k (Nat.lt_of_lt_of_le hl h.size) (fun e=>by have:=hr k e.symm hk;omega)).trans (h.block k hk hl)⟩
theorem aQ.kept {T:aw} {a b:World} (h:aQ T a b):Kept T a b:=h.block
theorem aQ.mono {S T:aw} {a b:World} (h:aQ S a b) (k:∀b,T b->S b):aQ T a b:=⟨h.os,h.tape,h.output,h.size,fun i hi=>h.block i (k i hi)⟩
theorem aQ.to {a b c:World} (e:Ext a b) (h:aQ (fun k=>k<a.heap.size) b c):Ext a c:=Below.trans e ⟨h.os,h.tape,h.output,h.size,fun k hk=>h.block k hk (Nat.lt_of_lt_of_le hk e.size)⟩
theorem gD {T:aw} {a b:World} (h:aQ T a b:=by with_reducible repeat (first|exact aQ.refl _ _|assumption|apply aQ.drew|apply aQ.drewN|apply aQ.alloc|(refine aQ.set ?_ ?_ _;rotate_left;(focus(first|(intro _;(first|(simp;done)|(simp;omega)|omega))|(intro h;exact absurd rfl h)|(intro h;exact absurd h (by assumption)))))|(refine aQ.ext ?_ (by assumption))|(refine aQ.trans ?_ (by assumption)))):aQ T a b:=h
theorem bk {w:World} {n:Nat} {vs:Array Value} {T:TypeId} (h:af w n vs T:=by(with_reducible apply af.to);(focus(with_reducible repeat (first|assumption|(apply af.new;(focus(first|rfl|(first|(simp;done)|(simp;omega)|omega))))|apply af.set|(apply af.other;rotate_left;(focus(first|(simp;done)|(simp;omega)|omega));rotate_right)|apply af.alloc|apply af.drew|(apply af.ext;(focus assumption)))));(first|rfl|(simp;done)|(go_light;simp [*];done))):af w n vs T:=h
structure dX (w:World) (P:aw) (r:Nat) (s:Sv) (v:Value) (xs:List Value):Prop where
 box:af w r #[v, .int .i64 s.time, .int .i64 s.last, .int .i64 s.acts] 74
 pr:P r
 own:w.ownsRow 0 41 15 v s.az.length xs
 row:∀g,v.ownBlock=some g->P g/\g≠r
 cells:fA w (fun b=>P b/\b≠r/\v.ownBlock≠some b) s.az xs
def Sat (w:World) (P:aw) (r:Nat) (s:Sv):Prop:=∃v xs,dX w P r s v xs
theorem dX.keep {w w':World} {P:aw} {r:Nat} {s:Sv} {v:Value} {xs:List Value} (h:dX w P r s v xs) (e:Kept P w w'):dX w' P r s v xs:=by
 refine⟨?_,h.pr,dL h.own (fun b hb he=>e b (h.row b he).1 hb),h.row,h.cells.keep (fun b hb hl=>e b hb.1 hl) (fun _ h _=>h)⟩;have:=h.box;have hl:=this.lt;unfold af at*;rw [e _ h.pr hl];exact this
theorem dX.ext {w w':World} {P:aw} {r:Nat} {s:Sv} {v:Value} {xs:List Value} (h:dX w P r s v xs) (e:Ext w w'):dX w' P r s v xs:=h.keep (e.kept P)
theorem dX.mono {w:World} {P Q:aw} {r:Nat} {s:Sv} {v:Value} {xs:List Value} (h:dX w P r s v xs) (hq:∀b,P b->Q b):dX w Q r s v xs:=
 ⟨h.box,hq _ h.pr,h.own,fun g hg=>⟨hq _ (h.row g hg).1,(h.row g hg).2⟩,h.cells.keep (fun _ _ _=>rfl) (fun b hb _=>⟨hq _ hb.1,hb.2⟩)⟩
theorem Sat.ext {w w':World} {P:aw} {r:Nat} {s:Sv} (h:Sat w P r s) (e:Ext w w'):Sat w' P r s:=by obtain⟨v,xs,h⟩:=h;exact⟨v,xs,h.ext e⟩
theorem Sat.keep {w w':World} {P:aw} {r:Nat} {s:Sv} (h:Sat w P r s) (e:Kept P w w'):Sat w' P r s:=by obtain⟨v,xs,h⟩:=h;exact⟨v,xs,h.keep e⟩
theorem Sat.mono {w:World} {P Q:aw} {r:Nat} {s:Sv} (h:Sat w P r s) (hq:∀b,P b->Q b):Sat w Q r s:=by obtain⟨v,xs,h⟩:=h;exact⟨v,xs,h.mono hq⟩
theorem dX.old {w:World} {P:aw} {r:Nat} {s:Sv} {v:Value} {xs:List Value} (h:dX w P r s v xs):dX w (fun b=>P b/\b<w.heap.size) r s v xs:=
 ⟨h.box,⟨h.pr,h.box.lt⟩,h.own,fun g hg=>⟨⟨(h.row g hg).1,(h.own.lt g hg).2⟩,(h.row g hg).2⟩,h.cells.keep (fun _ _ _=>rfl) (fun b hb hl=>⟨⟨hb.1,hl⟩,hb.2⟩)⟩
theorem TQ {w:World} {g o n m:Nat} {cs:List Value} (h:∀q u,cs[q]? =some u->w.cell? ⟨g,o+q,none⟩=some u/\w.frozen? ⟨g,o+q,none⟩=false) (hn:m+n<=cs.length):w.there g (o+m) n:=fun j hj=>by
 have:=h (m+j) _ (List.getElem?_eq_getElem (by omega));rw [Nat.add_assoc];exact⟨by rw [this.1];rfl,this.2⟩
theorem dX.thing {w:World} {P:aw} {r:Nat} {s:Sv} {v:Value} {xs:List Value} (h:dX w P r s v xs) {k:Nat} (hk:k<s.az.length):
 ∃g c ka kc la lc oa oc,v= .slice (some ⟨g,0,none⟩) s.az.length c/\g<w.heap.size/\g≠r/\P g/\s.az.length<=c/\ (∀q u,((s.az[k]).cells ka kc la lc oa oc)[q]? =some u->w.cell? ⟨g,k*15+q,none⟩=some u/\w.frozen? ⟨g,k*15+q,none⟩=false)/\
  kZ w (fun b=>P b/\b≠r/\b≠g) s.az[k] ka kc la lc oa oc:=by
 obtain⟨ka,kc,la,lc,oa,oc,h1,h2⟩:=h.cells.at hk;obtain⟨hl,h3⟩:=h.own;rcases h3 with⟨-,h0⟩|⟨g,cap,cur,rfl,hb,hg,hnc,hm,hs,ht⟩
 ·omega
 ·have hrow:=h.row g rfl
  have hB:af w g cur 41:=hg;refine⟨g,cap,ka,kc,la,lc,oa,oc,rfl,hB.lt,hrow.2,hrow.1,hnc,?_,h2.keep (fun _ _ _=>rfl) (fun b hb _=>⟨hb.1,hb.2.1,fun e=>hb.2.2 (by rw [e];rfl)⟩)⟩;intro q u hq;refine⟨?_,hB.free _⟩;rw [<-h1,List.getElem?_take] at hq
  split at hq
  ·rw [List.getElem?_drop,<-ht,List.getElem?_take] at hq
   split at hq
   ·rw [hB.cells];simpa using hq
   ·cases hq
  ·cases hq
theorem Vs (base g m cap k:Nat) (cur:Array Value) (w:World) (hb:base<=g) (hg:w.heap[g]? =some (.cells cur 41 (0,0))) (hnc:m<cap) (hm:cap<=maxLen) (hcs:cur.size=cap*15)
 (hk:k<=m) (h1c:∀u∈cur.toList.take ((m+1)*15),u.oneCell'=true):
 Calls prog 55 #[.slice (some ⟨g,0,none⟩) (m+1) cap, .int .i64 k, .int .i64 ((k:Int)+1)] w fun e w'=>e= .returned (.slice (some ⟨g,0,none⟩) m cap)/\
  w'.ownsRow base 41 15 (.slice (some ⟨g,0,none⟩) m cap) m ((cur.toList.take ((m+1)*15)).take (k*15)++(cur.toList.take ((m+1)*15)).drop ((k+1)*15))/\w.grownBy w' (some g):=by
 obtain⟨i0,hi,hz0,hz1,hz2⟩:=info_parts Tryz.A2;have hm2:cap<=9223372036854775807:=hm;have zq:(m+1)*15<=cap*15:=Nat.mul_le_mul_right _ hnc;obtain⟨cs,bU⟩:∃cs,cs=(cur.toList.take ((m+1)*15)).drop ((k+1)*15):=⟨_,rfl⟩;have hcl:cs.length=(m-k)*15:=by rw [bU];simp;omega
 have hdel:=GZ cur.toList ([Value.string ⟨#[]⟩, .int .i64 0, .int .i64 0, .string ⟨#[]⟩, .slice none 0 0, .slice none 0 0, .slice none 0 0, .int .i64 0, .int .i64 0, .string ⟨#[]⟩, .string ⟨#[]⟩, .int .i64 0, .int .i64 0, .int .i64 0, .int .i64 0]:List Value) (k*15) 15 ((m+1)*15) (by omega) (by rw [Array.length_toList,hcs];omega) rfl cs (by rw [bU];first|done|(congr 1<;>omega));simp only at hdel;rw [show (m+1)*15-15=m*15 by omega] at hdel;obtain⟨ay,hl2,aS⟩:=hdel;obtain⟨c1,hc1⟩:∃c1,c1=cur.toList.take (k*15)++cs++cur.toList.drop (k*15+cs.length):=⟨_,rfl⟩;rw [<-hc1] at ay hl2 aS;obtain⟨W1,hW1⟩:∃W1,W1=w.drew.setRow g c1.toArray:=⟨_,rfl⟩;have hg1:W1.heap[g]? =some (.cells c1.toArray 41 (0,0)):=by rw [hW1];exact setRow_heap w.drew g cur _ 41 _ hg
 have hap:∀(ad:Addr) ty,(cap=k+1\/ad=⟨g,(k+1)*15,none⟩)-> (Builtin.append_ #[26,26] ty #[.slice (some ⟨g,0,none⟩) k cap, .slice (some ad) (m+1-(k+1)) (cap-(k+1))]).run prog w.drew= .ok (.slice (some ⟨g,0,none⟩) m cap) W1:=fun ad ty had=>by
  have hsrc:∀j u,cs[j]? =some u->w.drew.cell? (ad.add j)=some u:=by
   rcases had with h|rfl
   ·have h0:m-k=0:=by omega
    have:cs.length=0:=by rw [hcl,h0,Nat.zero_mul]
    obtain rfl:=List.eq_nil_of_length_eq_zero this;intro j u hj;simp at hj
   ·intro j v hj
    rw [Addr.add_lit,bU,List.getElem?_drop,List.getElem?_take] at*
    split at hj
    ·show w.cell? _=_
     rw [cell_of_row w g _ cur _ _ hg];simpa using hj
    ·cases hj
  have h:=run_append_room (P:=prog) w.drew 26 ty 41 i0 underlying26 hi g k cap cur hg ad (m+1-(k+1)) (cap-(k+1)) cs (by rw [hz1,hcl];first|done|(congr 1;omega)) hsrc (fun u hu=>h1c u (List.mem_of_mem_drop (by rw [<-bU];exact hu))) (by omega) (by rw [hz1,hcl,hcs];omega);rw [h,hW1,hc1,hz1];rw [show k+(m+1-(k+1))=m by omega]
  first|done|simp only [Nat.mul_one]
 obtain⟨W2,hW2⟩:∃W2,W2=W1.setRow g (c1.take (m*15)++([Value.string ⟨#[]⟩, .int .i64 0, .int .i64 0, .string ⟨#[]⟩, .slice none 0 0, .slice none 0 0, .slice none 0 0, .int .i64 0, .int .i64 0, .string ⟨#[]⟩, .string ⟨#[]⟩, .int .i64 0, .int .i64 0, .int .i64 0, .int .i64 0]:List Value)++c1.drop (m*15+15)).toArray:=⟨_,rfl⟩;have hsz1:c1.toArray.size=cap*15:=by rw [List.size_toArray,aS,Array.length_toList,hcs]
 have A3:∀ty,(Builtin.clear_ #[26] ty #[.slice (some ⟨g,m*15,none⟩) 1 (cap-m)]).run prog W1= .ok (.tuple #[]) W2:=fun ty=>by have hz:(.agg #[Value.string ⟨#[]⟩, .int .i64 0, .int .i64 0, .string ⟨#[]⟩, .slice none 0 0, .slice none 0 0, .slice none 0 0, .int .i64 0, .int .i64 0, .string ⟨#[]⟩, .string ⟨#[]⟩, .int .i64 0, .int .i64 0, .int .i64 0, .int .i64 0]:Value).cells.size=15:=rfl;have h:=G0 (P:=prog) W1 26 41 ty (.agg #[Value.string ⟨#[]⟩, .int .i64 0, .int .i64 0, .string ⟨#[]⟩, .slice none 0 0, .slice none 0 0, .slice none 0 0, .int .i64 0, .int .i64 0, .string ⟨#[]⟩, .string ⟨#[]⟩, .int .i64 0, .int .i64 0, .int .i64 0, .int .i64 0]) underlying26 (fun w=>by simp [Go.zeroValue,typeInfo,hi,hz0]) (by decide) g (m*15) (cap-m) c1.toArray 41 hg1 (by rw [hsz1,hz];omega);rw [h,hW2];rfl
 have iL:W2.ownsRow base 41 15 (.slice (some ⟨g,0,none⟩) m cap) m ((cur.toList.take ((m+1)*15)).take (k*15)++(cur.toList.take ((m+1)*15)).drop ((k+1)*15)):=by
  rw [hW2];refine qC hb (setRow_heap W1 g _ _ 41 _ hg1) (by omega) hm ?_ ?_
  ·rw [List.size_toArray,hl2,Array.length_toList,hcs]
  ·rw [show m*15=m*15 by omega]
   rw [List.toList_toArray,ay]
   try(congr 2<;>omega)
 have iM:w.grownBy W2 (some g):=by rw [hW2,hW1];exact qD (mW (jo w.drew g _)) (jo _ g _)
 have mixed:prog.follows Departure.mixedOrders=true:=by kernel_rfl
 have hz3:¬((k:Int)=(k:Int)+1):=by omega
 have hb1:(0:Int)<= (k:Int)+1:=by omega
 have htn:((k:Int)+1).toNat=k+1:=by omega
 have hin:k<=cap:=by omega
 have bR:k+1<=cap:=by omega
 have bn:k<=k+1:=by omega
 have dv:k+1<=m+1:=by omega
 have fH:m+1<=cap:=by omega
 have bY:m<=m+1:=by omega
 have hb3:((k:Int)+1)<= ((m:Int)+1):=by omega
 have hcm:¬(cap=m):=by omega
 have hcm2:m+1-m=1:=by omega
 have lZ:=ae iL;have jq:=ae iM;clear iL iM hW2 hsz1 hW1 hg1 ay hl2 aS hc1 bU hcl hg h1c hcs hi hz0 hz1 hz2;by_cases uV:cap=k+1
 ·obtain rfl:m=k:=by omega
  subst uV;have qE:=fun ty=>hap ⟨g,0,none⟩ ty (.inl rfl);clear hap;have G3:(m:Int)<= (m:Int)+1:=by omega
  rw [show m+1-m=1 by omega] at A3;go_enter func55,ntmps55;go_wp2_with fail
  go_region_law_o (refine zr rfl _ _ 26 26 rfl _ _ (by simp [Act.eval,Act.put]) (by simp [Act.eval,Act.put]) (qE _) ?_)
  go_wp2;go_ret;exact⟨rfl,lZ.out,jq.out⟩
 ·have qE:=fun ty=>hap ⟨g,(k+1)*15,none⟩ ty (.inr rfl)
  clear hap;go_enter func55,ntmps55;go_wp2_with fail
  go_region_law_o (refine zr rfl _ _ 26 26 rfl _ _ (by simp [Act.eval,Act.put]) (by simp [Act.eval,Act.put,uV]) (qE _) ?_)
  go_wp2;go_ret;exact⟨rfl,lZ.out,jq.out⟩
end Go.Proofs.YtlcebdaghmdkeabGreatDoor
