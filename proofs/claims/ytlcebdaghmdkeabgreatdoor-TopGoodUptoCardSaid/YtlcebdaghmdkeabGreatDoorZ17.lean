import Derived.Test.YtlcebdaghmdkeabGreatDoorZ12
import Derived.Test.YtlcebdaghmdkeabGreatDoorZ16
set_option linter.all false
set_option maxRecDepth 100000
set_option maxHeartbeats 64000000
namespace Go.Proofs.YtlcebdaghmdkeabGreatDoor
open Go.Proofs.Tryz
open Go.RowKit
attribute [local go_sem↓] Go.wp_at_zero Go.wp_at_succ
theorem aed:(prog.info? 82).map (fun i=>(i.zero,i.size,i.bytes))=some (some (.agg #[.int .i64 0, .int .i64 0]),2,16):=by kernel_rfl
def ru (xs:List (Int×Int)):List Value:=xs.flatMap fun x=> [.int .i64 x.1, .int .i64 x.2]
theorem aee (xs:List (Int×Int)):∀i,i<xs.length-> (ru xs)[i*2]? =some (.int .i64 (xs.getD i (0,0)).1)/\ (ru xs)[i*2+1]? =some (.int .i64 (xs.getD i (0,0)).2):=by
 induction xs with
 |nil=>intro i hi;simp at hi
 |cons x r ih=>
  intro i hi
  cases i with
  |zero=>simp [ru]
  |succ i=>
   have:=ih i (by simpa using hi);simp only [ru,List.flatMap_cons,List.cons_append,List.nil_append] at this⊢;rw [show (i+1)*2=i*2+1+1 from by omega,show i*2+1+1+1=(i*2+1)+1+1 from by omega];simpa using this
theorem aef {w:World} {base:Nat} {a:au} {n c:Nat} {xs:List (Int×Int)} (h:w.ownsRow base 82 2 (.slice a n c) n (ru xs)) (hn:xs.length=n):StepsIn w a xs:=by
 obtain⟨hl,h⟩:=h;rcases h with⟨-,h0⟩|⟨g,cap,cur,hv,hb,hg,hnc,hcm,hcs,ht⟩
 ·subst h0
  exact .inl (List.length_eq_zero_iff.1 hn)
 ·simp only [Value.slice.injEq] at hv
  obtain⟨rfl,-,rfl⟩:=hv;refine .inr ⟨g,0,rfl,fun i hi=> ?_⟩;have hx:∀j u,(ru xs)[j]? =some u->w.cell? ⟨g,j,none⟩=some u:=by
   intro j u hj;rw [cell_of_row w g j cur _ _ hg];rw [<-ht,List.getElem?_take] at hj
   split at hj
   ·simpa using hj
   ·cases hj
  obtain⟨s0,s1⟩:=aee xs i hi;rw [Nat.zero_add];exact⟨hx _ _ s0,hx _ _ s1⟩
abbrev uz:ah:=⟨#[105,109,97,103,101]⟩
abbrev vV:ah:=⟨#[115,116,101,112,115]⟩
abbrev M5:ah:=⟨#[112,97,117,115,101]⟩
def stepOf (x:V):Option (Int×Int):=
 if x.k=5 then(match x.member M5 with
  |some p=>if p.k=2/\0<=p.n/\mE (-1) p.n=true then some (-1,p.n) else none
  |none=>none)
 else if x.k=2/\0<=x.n/\mE x.n 0=true then some (x.n,0) else none
def nC:List V->Option (List (Int×Int))
 | []=>some []
 |x::r=>match stepOf x,nC r with
  |some p,some l=>some (p::l)
  |_,_=>none
theorem BD {l:List V} {k:Nat} (h:k<l.length) (hb:stepOf l[k]=none):nC l=none:=by
 induction l generalizing k with
 |nil=>simp at h
 |cons x r ih=>
  cases k with
  |zero=>simp only [List.getElem_cons_zero] at hb;simp [nC,hb]
  |succ k=>simp only [List.getElem_cons_succ] at hb;rw [nC,ih (by simpa using h) hb];cases stepOf x<;>rfl
def vW (l:List V) (k:Nat) (xs:List (Int×Int)):Prop:=xs.length=k/\∀i,(h:i<l.length)->i<k->∃p,stepOf l[i]=some p/\xs[i]? =some p
theorem vW.nil (l:List V):vW l 0 []:=⟨rfl,fun i _ h=>by omega⟩
theorem vW.snoc {l:List V} {k:Nat} {xs:List (Int×Int)} (h:vW l k xs) (hk:k<l.length) {p:Int×Int} (hp:stepOf l[k]=some p):vW l (k+1) (xs++ [p]):=by
 obtain⟨h1,h2⟩:=h;refine⟨by simp [h1],fun i hi hk'=> ?_⟩;by_cases e:i=k
 ·subst e;exact⟨p,hp,by rw [List.getElem?_append_right (by omega)];simp [h1]⟩
 ·obtain⟨q,hq,hx⟩:=h2 i hi (by omega)
  exact⟨q,hq,by rw [List.getElem?_append_left (by omega)];exact hx⟩
theorem vW.all {l:List V} {xs:List (Int×Int)} (h:vW l l.length xs):nC l=some xs:=by
 induction l generalizing xs with
 |nil=>obtain⟨h,-⟩:=h;simp at h;subst h;rfl
 |cons x r ih=>
  obtain⟨h1,h2⟩:=h;obtain⟨p,hp,hx⟩:=h2 0 (by simp) (by simp)
  cases xs with
  |nil=>simp at h1
  |cons y ys=>
   simp only [List.getElem?_cons_zero,Option.some.injEq] at hx;subst hx;simp only [List.getElem_cons_zero] at hp;rw [nC,hp,ih (xs:=ys) ⟨by simpa using h1,fun i hi hk=>by have:=h2 (i+1) (by simpa using hi) (by simpa using hi);simpa using this⟩]
theorem Um (xs:List (Int×Int)) (a b:Int):ru (xs++ [(a,b)])=ru xs++ [.int .i64 a, .int .i64 b]:=by simp [ru]
def dx (x:V):Option (ah×List (Int×Int)):=
 if x.fine=true then(match x.member uz with
  |none=>none
  |some i=>if i.k=3/\i.s.toList≠ [] then(match x.member vV with
    |none=>some (i.s, [])
    |some t=>if t.k=4/\t.l.length<=8 then(match nC t.l with
      |some xs=>some (i.s,xs)
      |none=>none) else none)
   else none)
 else none
def ux (r:Option (ah×List (Int×Int))) (w:World) (e:Ending) (w':World):Prop:=
 (∃im xs a n c,r=some (im,xs)/\xs.length=n/\e= .returned (.tuple #[.agg #[.string im, .slice a n c], .int .i64 0])/\StepsIn w' a xs/\ (∀p:Addr,a=some p->w.heap.size<=p.block)/\Ext w w')\/
 (r=none/\e= .returned (.tuple #[.agg #[.string ⟨#[]⟩, .slice none 0 0], .int .i64 1])/\Ext w w')
theorem Un {x y:V} {key:ah} (h:x.member key=some y):y.size<x.size:=by
 obtain⟨j,a,rfl⟩:=Rj h;exact V.qy a.lt
def mD (r:Option (ah×List (Int×Int))):ah:=match r with|some p=>p.1|none=>⟨#[]⟩
def gZ (r:Option (ah×List (Int×Int))):List (Int×Int):=match r with|some p=>p.2|none=> []
def xP (r:Option (ah×List (Int×Int))):Int:=match r with|some _=>0|none=>1
def xQ (im:ah) (xs:List (Int×Int)):St:=if kq im xs then⟨im,im,1,0,100,0⟩ else⟨⟨#[]⟩,⟨#[]⟩,0,0,0,0⟩
def M0 (im:ah) (xs:List (Int×Int)):Int:=if kq im xs then 0 else 1
end Go.Proofs.YtlcebdaghmdkeabGreatDoor
namespace Go.Proofs.YtlcebdaghmdkeabGreatDoor
open Go.Proofs.Tryz
open Go.RowKit
theorem OY:prog.globalNamed "stairwell/patch.names" =some 1:=by kernel_rfl
theorem Xp:(prog.globals[1]?).map (·.type)=some 232:=by kernel_rfl
theorem Xq:prog.cellsOf 232=7:=by kernel_rfl
theorem Xr {H:Type} {enc:TypeId×Value->H} {P:Program} {w:World} {base:Nat} {sp:Nat->Bool} {held:Bool} {fuel:Nat} {t e:TypeId} {n:Nat} {cs:List Value} {zs:List (List UInt8)} {p:List MemPlace}
 (ht:P.underlying t=some (.array n e)) (he:P.underlying e=some .string) (hce:P.cellsOf e=1) (hct:P.cellsOf t=n)
 (h:DataW.trod enc P w base sp held fuel t cs=some (.agg (zs.map fun z=> .lit (.string z)),p)):cs=zs.map fun z=>Value.string ⟨z.toArray⟩:=by
 cases fuel with
 |zero=>simp [DataW.trod] at h
 |succ fuel=>
  simp only [DataW.trod,ht,hce,hct,Nat.mul_one] at h
  split at h
  ·rename_i hl
   obtain⟨xs,hm,hx⟩:=Option.map_eq_some_iff.1 h;have hxs:xs.map (·.1)=zs.map fun z=>(DataW.lit (.string z):DataW H):=by have:=congrArg Prod.fst hx;simpa using this
   have hxl:xs.length=n:=by simpa using Lib.mapM_length hm
   have hzl:zs.length=n:=by have:=congrArg List.length hxs;simp only [List.length_map] at this;omega
   apply List.ext_getElem?;intro i;by_cases hi:i<n
   ·obtain⟨b,hb,hf⟩:=Lib.mapM_at hm i i (by simp [hi])
    obtain⟨z,hc,rfl,_⟩:=DataW.trod_string he hf;have h1:cs[i]? =some (.string z):=by have:=congrArg (·[0]?) hc;simpa [List.getElem?_take,List.getElem?_drop] using this
    have h2:(xs.map (·.1))[i]? =some (DataW.lit (.string z.data.toList):DataW H):=by simp [hb]
    rw [hxs] at h2;simp only [List.getElem?_map,Option.map_eq_some_iff,DataW.lit.injEq,Lit.string.injEq] at h2;obtain⟨z',hz',hz2⟩:=h2;rw [h1,List.getElem?_map,hz',hz2];simp
   ·rw [List.getElem?_eq_none (by omega),List.getElem?_eq_none (by simp;omega)]
  ·cases h
theorem Xu {W:World} {rest:List (String×DataW Unit)} (h:laidMet prog (("stairwell/patch.names",Rows.laid_stairwell_patch_names)::rest) W):rN W:=by
 obtain⟨ps,⟨g',t',cs,fuel,p,q,hg',ht',hvar,hd,_,_⟩,_⟩:=h;obtain rfl:=Option.some.inj (OY.symm.trans hg');obtain rfl:=Option.some.inj (Xp.symm.trans ht');have hc:=Xr (zs:= [[], [97,100,100], [114,101,109,111,118,101], [114,101,112,108,97,99,101], [109,111,118,101], [99,111,112,121], [116,101,115,116]]) underlying232 underlying9 Jj Xq hd;intro i hi;have h0:=World.var?_cell OY hvar i;rw [show cs=cs.toList.toArray by simp,hc] at h0
 match i,hi with
 |0,_=>simpa [qz,wH] using h0
 |1,_=>simpa [qz,wH] using h0
 |2,_=>simpa [qz,wH] using h0
 |3,_=>simpa [qz,wH] using h0
 |4,_=>simpa [qz,wH] using h0
 |5,_=>simpa [qz,wH] using h0
 |6,_=>simpa [qz,wH] using h0
end Go.Proofs.YtlcebdaghmdkeabGreatDoor
namespace Go.Proofs.YtlcebdaghmdkeabGreatDoor
open Go.RowKit
def Ui (xs:List (Int×Int)) (now:Int) (s:St) (o:Int) (k:Nat) (r:St):Prop:=
 r=qo s.cm\/∃(j:Nat) (hj:j<xs.length) (wt si:Int),k<=j/\xs[j].1<0/\r=⟨s.sb,s.cm,3,j,wt,si⟩/\ (wt=s.wt\/∃x∈xs,wt=x.1/\0<=x.1)/\
  (si=now\/ (j=k/\s.ph=3/\o≠1/\si=s.si/\wt=s.wt/\ (xs[j].2=0\/now<si\/now-si<xs[j].2)))
theorem Ia (xs:List (Int×Int)) (now:Int) (n:Nat):∀(k:Nat) (s:St) (o:Int),xs.length-k<=n->s.sp=k->Ui xs now s o k (rq now (xs.drop k) s o):=by
 induction n with
 |zero=>
  intro k s o hk _;rw [List.drop_of_length_le (by omega)];exact .inl rfl
 |succ n ih=>
  intro k s o hk hs;by_cases hlt:k<xs.length
  ·have step:∀(wt:Int) (o':Int),(wt=s.wt\/∃x∈xs,wt=x.1/\0<=x.1)->Ui xs now s o k (rq now (xs.drop (k+1)) ⟨s.sb,s.cm,2,s.sp+1,wt,0⟩ o'):=by
    intro wt o' hw;rcases ih (k+1) ⟨s.sb,s.cm,2,s.sp+1,wt,0⟩ o' (by omega) (by simp [hs]) with h|⟨j,hj,uy,nB,hkj,hx,hr,hw',gf⟩
    ·exact .inl h
    ·refine .inr ⟨j,hj,uy,nB,by omega,hx,hr,?_,?_⟩
     ·rcases hw' with h|h
      ·exact h▸hw
      ·exact .inr h
     ·rcases gf with h|h
      ·exact .inl h
      ·exact absurd h.2.1 (by simp)
   rw [List.drop_eq_getElem_cons hlt,rq]
   split
   ·rename_i h0
    exact step xs[k].1 o (.inr ⟨xs[k],List.getElem_mem hlt,rfl,h0⟩)
   ·rename_i h0
    split
    ·exact .inr ⟨k,hlt,s.wt,now,Nat.le_refl _,by omega,by simp [hs], .inl rfl, .inl rfl⟩
    ·rename_i h3
     have h3:s.ph=3:=by simpa using h3
     split
     ·exact step s.wt 0 (.inl rfl)
     ·rename_i ho
      split
      ·rename_i hw
       exact .inr ⟨k,hlt,s.wt,s.si,Nat.le_refl _,by omega,by cases s;simp_all, .inl rfl, .inr ⟨rfl,h3,ho,rfl,rfl,hw⟩⟩
      ·exact step s.wt o (.inl rfl)
  ·rw [List.drop_of_length_le (by omega)]
   exact .inl rfl
theorem Uj {im:ah} {xs:List (Int×Int)} (hG:kq im xs=true):im.toList≠ []/\im.size<=60/\xs.length<=8/\∀x∈xs,mE x.1 x.2=true:=by
 simp only [kq,pH,Bool.and_eq_true,decide_eq_true_eq,List.all_eq_true] at hG;exact⟨hG.1.1.1,hG.1.1.2,hG.1.2,hG.2⟩
theorem Uk {im:ah} {xs:List (Int×Int)} {s:St} {now o:Int} {r:St} (h:fD im xs s now o=(r,0)):
 kq im xs=true/\iy s=true/\0<=now/\now<=1099511627776/\0<=o/\o<=3/\
 ((im.toList≠s.cm.toList/\im.toList=s.sb.toList/\r=qo s.sb)\/
  (¬(im.toList≠s.cm.toList/\im.toList=s.sb.toList)/\
   (((cS im s).ph≠2/\ (cS im s).ph≠3/\r=cS im s)\/
    (((cS im s).ph=2\/ (cS im s).ph=3)/\
     ((o=2/\r=qo (cS im s).cm)\/ (o=3/\r=⟨(cS im s).sb,(cS im s).cm,4,0,0,0⟩)\/
      (o<=1/\r=rq now (xs.drop (cS im s).sp.toNat) (cS im s) o)))))):=by
 unfold fD at h
 repeat' split at h
 all_goals simp only [Prod.mk.injEq] at h
 all_goals grind
theorem Ul {im:ah} {xs:List (Int×Int)} {s:St} {now o:Int} (hG:kq im xs=true) (hT:iy s=true) (h0:0<=now) (h1:now<=1099511627776) (ho0:0<=o) (sw:o<=3):
 (fD im xs s now o).2=0:=by
 unfold fD
 grind
theorem M4 {im:ah} {xs:List (Int×Int)} {s:St} {now o:Int} {r:St} (h:fD im xs s now o=(r,0)):iy r=true:=by
 obtain⟨hG,hT,h0,h1,ho0,sw,hc⟩:=Uk h;obtain⟨g1,g2,g3,g4⟩:=Uj hG;have hT':=hT;simp only [iy,decide_eq_true_eq] at hT';rcases hc with⟨ha,hb,rfl⟩|⟨ha,⟨hp2,vT,rfl⟩|⟨hp,⟨rfl,rfl⟩|⟨rfl,rfl⟩|⟨ho,hr⟩⟩⟩
 ·simp only [iy,qo];grind
 ·simp only [iy,cS] at*;grind
 ·simp only [iy,qo,cS] at*;grind
 ·simp only [iy,cS] at*;grind
 ·have hsp:0<= (cS im s).sp:=by simp only [cS] at*;grind
  obtain⟨k,hk⟩:=Int.eq_ofNat_of_zero_le hsp;have hk':(cS im s).sp.toNat=k:=by omega
  rw [hk'] at hr;have he:=Ia xs now _ k (cS im s) o (Nat.le_refl _) hk;rw [<-hr] at he;rcases he with h|⟨j,hj,wt,si,hkj,hx,zO,hw,gf⟩
  ·rw [h];simp only [iy,qo,cS] at*;grind
  ·have hgj:=g4 xs[j] (List.getElem_mem hj)
   have hwb:0<=wt/\wt<=100:=by
    rcases hw with h|⟨x,vU,h,h0⟩
    ·simp only [cS] at*;grind
    ·have:=g4 x vU;simp only [mE] at this;grind
   have vQ:0<=si/\si<=1099511627776:=by
    rcases gf with h|h
    ·omega
    ·simp only [cS] at*;grind
   rw [zO];simp only [iy,cS] at*;grind
end Go.Proofs.YtlcebdaghmdkeabGreatDoor
namespace Go.Proofs.YtlcebdaghmdkeabGreatDoor
structure Th where
 name:ah
 v:V
 ows:List Ow
 ver:Int
 gen:Int
 st:St
structure Sv where
 ax:List Th
 time:Int
 last:Int
 acts:Int
structure Ac where
 k:Int
 name:ah
 who:ah
 body:ah
 ver:Int
 n:Int
 ord:Int
 force:Bool
structure Rp where
 c:Int
 n:Int
 b:ah
abbrev fu (w:World) (a:Nat) (t:Th) (ka:au) (kc:Nat) (la:au) (lc:Nat) (oa:au) (oc:Nat):Prop:=af w a #[.string t.name, .int .i64 t.v.k, .int .i64 t.v.n, .string t.v.s, .slice ka t.v.keys.length kc, .slice la t.v.l.length lc, .slice oa t.ows.length oc, .int .i64 t.ver, .int .i64 t.gen, .string t.st.sb, .string t.st.cm, .int .i64 t.st.ph, .int .i64 t.st.sp, .int .i64 t.st.wt, .int .i64 t.st.si] 41
abbrev qq (w:World) (a:Nat) (x:Ac):Prop:=af w a #[.int .i64 x.k, .string x.name, .string x.who, .string x.body, .int .i64 x.ver, .int .i64 x.n, .int .i64 x.ord, .bool x.force] 28
abbrev jm (w:World) (a:Nat):Prop:=af w a #[.int .i64 0, .int .i64 0, .string ⟨#[]⟩] 31
def Rp.no (e:Int):Rp:=⟨e,0,⟨#[]⟩⟩
def Rp.num (n:Int):Rp:=⟨0,n,⟨#[]⟩⟩
def NL (a b:Ow):Bool:=decide (a.name=b.name)&&decide (a.paths=b.paths)
def ya:List Ow->List Ow->Bool
 | [], []=>true
 |a::l,b::m=>NL a b&&ya l m
 |_,_=>false
theorem afc (a b:Ow):NL a b=true↔a=b:=by
 cases a;cases b;simp [NL]
theorem NJ:∀(l m:List Ow),ya l m=true↔l=m
 | [], []=>by simp [ya]
 | [],_::_=>by simp [ya]
 |_::_, []=>by simp [ya]
 |a::l,b::m=>by simp only [ya,Bool.and_eq_true,afc,NJ l m,List.cons.injEq]
def oN (v b:V) (k:Int):V×Int:=
 if k=3 then mL v b else if k=4 then(if(jM b).2=0 then kK v (jM b).1 else(b,(jM b).2)) else(b,0)
def cL (v:V) (ows:List Ow) (a:Ac):V×List Ow×Int:=
 if(dQ a.body.data.toList).2≠0 then(v,ows,(dQ a.body.data.toList).2)
 else if a.k=5 then((ik v ows a.who (dQ a.body.data.toList).1 a.force).1,(ik v ows a.who (dQ a.body.data.toList).1 a.force).2.1,(ik v ows a.who (dQ a.body.data.toList).1 a.force).2.2.2)
 else((oN v (dQ a.body.data.toList).1 a.k).1,np (oN v (dQ a.body.data.toList).1 a.k).1 ows,(oN v (dQ a.body.data.toList).1 a.k).2)
def Th.next (t:Th) (time o:Int):St×Int:=fD (mD (dx t.v)) (gZ (dx t.v)) t.st time o
def Th.ord (t:Th) (time o:Int):Th:=if(t.next time o).2=0 then {t with st:=(t.next time o).1} else t
def Th.other (t:Th) (v:V):Bool:=decide (t.ver=0)|| !v.same t.v
def Th.turn (t:Th) (v:V) (ows:List Ow):Bool:=t.other v|| !ya ows t.ows
def Th.kept (t:Th) (v:V) (ows:List Ow) (time last:Int):Th:=
 ⟨t.name,v,ows,if t.turn v ows then last+1 else t.ver,if t.other v then t.gen+1 else t.gen,(fD (mD (dx v)) (gZ (dx v)) t.st time 0).1⟩
def pK (s:Sv) (k:Nat) (t:Th) (v:V) (ows:List Ow):Sv×Rp:=
 if dx v=none then(s, .no 1)
 else(⟨s.ax.set k (t.kept v ows s.time s.last),s.time,if t.turn v ows then s.last+1 else s.last,s.acts⟩, .num (t.kept v ows s.time s.last).ver)
def fw (l:List Th) (name:ah):Nat:=posOf (l.map Th.name) name
def gG (l:List Th) (name:ah):Bool:=hasB (l.map Th.name) name
def pM (name:ah) (v:V):Th:=⟨name,V.cd, [],0,0,xQ (mD (dx v)) (gZ (dx v))⟩
def rz (s:Sv) (a:Ac) (k:Nat) (there:Bool):Sv×Rp:=
 if there=true then(s, .no 6)
 else if 8<=s.ax.length then(s, .no 10)
 else if(cL V.cd [] a).2.2≠0 then(s, .no (cL V.cd [] a).2.2)
 else if dx (cL V.cd [] a).1=none then(s, .no 1)
 else pK {s with ax:=s.ax.take k++pM a.name (cL V.cd [] a).1::s.ax.drop k} k (pM a.name (cL V.cd [] a).1) (cL V.cd [] a).1 (cL V.cd [] a).2.1
def oM (s:Sv) (n:Int):Sv×Rp:=
 if n<1\/1099511627776-s.time<n then(s, .no 8)
 else({s with ax:=s.ax.map fun t=>t.ord (s.time+n) 0,time:=s.time+n}, .no 0)
def xV (s:Sv) (k:Nat) (t:Th) (o:Int):Sv×Rp:=
 if(t.next s.time o).2≠0 then(s, .no (t.next s.time o).2) else({s with ax:=s.ax.set k (t.ord s.time o)}, .num (t.next s.time o).1.ph)
def EL (t:Th):Rp:=if(lv t.v).2≠0 then .no (lv t.v).2 else⟨0,t.ver,⟨(lv t.v).1.toArray⟩⟩
def uD (s:Sv) (k:Nat) (t:Th) (a:Ac):Sv×Rp:=
 if a.k=6 then({s with ax:=s.ax.take k++s.ax.drop (k+1)}, .num t.ver)
 else if a.k=9 then(s,EL t)
 else if a.k=7 then xV s k t a.ord
 else if a.k≠5/\a.ver≠0/\a.ver≠t.ver then(s, .no 7)
 else if(cL t.v t.ows a).2.2≠0 then(s, .no (cL t.v t.ows a).2.2)
 else pK s k t (cL t.v t.ows a).1 (cL t.v t.ows a).2.1
def EK (s:Sv) (a:Ac):Sv×Rp:=
 if a.k<1\/9<a.k then(s, .no 9)
 else if a.k=8 then oM s a.n
 else if gK a.name=false then(s, .no 1)
 else if a.k=1\/ (a.k=5/\gG s.ax a.name=false) then rz s a (fw s.ax a.name) (gG s.ax a.name)
 else if gG s.ax a.name=false then(s, .no 3)
 else match s.ax[fw s.ax a.name]? with
  |some t=>uD s (fw s.ax a.name) t a
  |none=>(s, .no 3)
def bP (s:Sv) (a:Ac):Sv×Rp:=if 300<=s.acts then(s, .no 10) else EK {s with acts:=s.acts+1} a
def bQ:Sv:=⟨[],0,0,0⟩
def eI (s:Sv) (l:List Ac):Sv:=l.foldl (fun s a=>(bP s a).1) s
end Go.Proofs.YtlcebdaghmdkeabGreatDoor
namespace Go.Proofs.YtlcebdaghmdkeabGreatDoor
open Go.Proofs.Tryz
open Go.RowKit
theorem Tryz.Cc:(prog.info? 41).map (fun i=>(i.zero,i.size,i.bytes))=some (some (.agg #[.string ⟨#[]⟩, .int .i64 0, .int .i64 0, .string ⟨#[]⟩, .slice none 0 0, .slice none 0 0, .slice none 0 0, .int .i64 0, .int .i64 0, .string ⟨#[]⟩, .string ⟨#[]⟩, .int .i64 0, .int .i64 0, .int .i64 0, .int .i64 0]),15,200):=by kernel_rfl
theorem Tryz.ae8:(prog.info? 41).map (·.size)=some 15:=by kernel_rfl
theorem Tryz.ae9:(prog.info? 39).map (·.size)=some 6:=by kernel_rfl
def Th.cells (t:Th) (ka:au) (kc:Nat) (la:au) (lc:Nat) (oa:au) (oc:Nat):List Value:= [.string t.name, .int .i64 t.v.k, .int .i64 t.v.n, .string t.v.s, .slice ka t.v.keys.length kc, .slice la t.v.l.length lc, .slice oa t.ows.length oc, .int .i64 t.ver, .int .i64 t.gen, .string t.st.sb, .string t.st.cm, .int .i64 t.st.ph, .int .i64 t.st.sp, .int .i64 t.st.wt, .int .i64 t.st.si]
theorem Th.x8 (t:Th) (ka:au) (kc:Nat) (la:au) (lc:Nat) (oa:au) (oc:Nat):(t.cells ka kc la lc oa oc).length=15:=rfl
theorem Th.tD (t:Th) (ka:au) (kc:Nat) (la:au) (lc:Nat) (oa:au) (oc:Nat):∀u∈t.cells ka kc la lc oa oc,u.oneCell'=true:=by
 intro u hu;simp only [Th.cells,List.mem_cons,List.not_mem_nil,or_false] at hu;rcases hu with rfl|rfl|rfl|rfl|rfl|rfl|rfl|rfl|rfl|rfl|rfl|rfl|rfl|rfl|rfl<;>rfl
structure ji (w:World) (T:az) (t:Th) (ka:au) (kc:Nat) (la:au) (lc:Nat) (oa:au) (oc:Nat):Prop where
 v:t.v.In w T ka kc la lc
 ok:aM oa t.ows.length oc
 ows:cx w T t.ows oa
theorem ji.keep {S T:az} {w w':World} {t:Th} {ka:au} {kc:Nat} {la:au} {lc:Nat} {oa:au} {oc:Nat} (h:ji w S t ka kc la lc oa oc) (hk:Kept S w w') (hT:∀b,S b->b<w.heap.size->T b):ji w' T t ka kc la lc oa oc:=
 ⟨h.v.keep hk hT,h.ok,h.ows.keep hk hT⟩
def fY (w:World) (T:az):List Th->List Value->Prop
 | [],xs=>xs= []
 |x::r,xs=>∃ka kc la lc oa oc t,xs=x.cells ka kc la lc oa oc++t/\ji w T x ka kc la lc oa oc/\fY w T r t
theorem fY.keep {S T:az} {w w':World} {l:List Th} {xs:List Value} (h:fY w S l xs) (hk:Kept S w w') (hT:∀b,S b->b<w.heap.size->T b):fY w' T l xs:=by
 induction l generalizing xs with
 |nil=>exact h
 |cons x r ih=>
  obtain⟨ka,kc,la,lc,oa,oc,t,rfl,h1,h2⟩:=h;exact⟨ka,kc,la,lc,oa,oc,t,rfl,h1.keep hk hT,ih h2⟩
theorem fY.one {w:World} {T:az} {l:List Th} {xs:List Value} (h:fY w T l xs):∀u∈xs,u.oneCell'=true:=by
 induction l generalizing xs with
 |nil=>subst h;simp
 |cons y r ih=>
  obtain⟨a,b,c,d,e,f,t,rfl,h1,h2⟩:=h;intro u hu;rcases List.mem_append.1 hu with hu|hu
  ·exact Th.tD _ _ _ _ _ _ _ u hu
  ·exact ih h2 u hu
theorem fY.app {w:World} {T:az} {l m:List Th} {xs ys:List Value} (h:fY w T l xs) (k:fY w T m ys):fY w T (l++m) (xs++ys):=by
 induction l generalizing xs with
 |nil=>subst h;exact k
 |cons y r ih=>
  obtain⟨a,b,c,d,e,f,t,rfl,h1,h2⟩:=h;exact⟨a,b,c,d,e,f,_,by rw [List.append_assoc],h1,ih h2⟩
theorem fY.cut {w:World} {T:az} {l:List Th} {xs:List Value} (h:fY w T l xs) (k:Nat):fY w T (l.take k) (xs.take (k*15))/\fY w T (l.drop k) (xs.drop (k*15)):=by
 induction l generalizing xs k with
 |nil=>subst h;simp [fY]
 |cons y r ih=>
  match k with
  |0=>simpa [fY] using h
  |k+1=>
   obtain⟨a,b,c,d,e,f,t,rfl,h1,h2⟩:=h;obtain⟨h3,h4⟩:=ih h2 k;have hl:=y.x8 a b c d e f;constructor
   ·refine⟨a,b,c,d,e,f,_,?_,h1,h3⟩
    rw [List.take_append,hl,List.take_of_length_le (by omega),show (k+1)*15-15=k*15 by omega]
   ·show fY w T (r.drop k) _
    rw [List.drop_append,hl,List.drop_of_length_le (l:=y.cells a b c d e f) (by omega),show (k+1)*15-15=k*15 by omega];exact h4
theorem fY.ins {w:World} {T:az} {l:List Th} {xs:List Value} (h:fY w T l xs) (k j:Nat) {t:Th} {ka:au} {kc:Nat} {la:au} {lc:Nat} {oa:au} {oc:Nat} (ht:ji w T t ka kc la lc oa oc):
 fY w T (l.take k++t::l.drop j) (xs.take (k*15)++t.cells ka kc la lc oa oc++xs.drop (j*15)):=by
 rw [List.append_assoc];exact(h.cut k).1.app ⟨ka,kc,la,lc,oa,oc,_,rfl,ht,(h.cut j).2⟩
theorem fY.at {w:World} {T:az} {l:List Th} {xs:List Value} (h:fY w T l xs) {i:Nat} (hi:i<l.length):∃ka kc la lc oa oc,(xs.drop (i*15)).take 15=l[i].cells ka kc la lc oa oc/\ji w T l[i] ka kc la lc oa oc:=by
 have h1:=(h.cut i).2;rw [List.drop_eq_getElem_cons hi] at h1;obtain⟨a,b,c,d,e,f,t,h2,h3,-⟩:=h1;exact⟨a,b,c,d,e,f,by rw [h2,List.take_append_of_le_length (by rw [Th.x8];omega),List.take_of_length_le (by rw [Th.x8];omega)],h3⟩
theorem NK {T:TypeId} {g:Nat}:∀(cs:List Value) {w:World} {cur:Array Value} (o:Nat),af w g cur T->o+cs.length<=cur.size->∃cur':Array Value,af (w.setCells g o cs) g cur' T/\cur'.toList=cur.toList.take o++cs++cur.toList.drop (o+cs.length)
 | [],w,cur,o,h,_=>⟨cur,h,by simp⟩
 |c::r,w,cur,o,h,hs=>by
  have hs':o+(r.length+1)<=cur.size:=by simpa using hs
  obtain⟨cur',h1,h2⟩:=NK r (o+1) (h.set o c) (by simpa using (show o+1+r.length<=cur.size by omega));refine⟨cur',h1,?_⟩;have hl:o<cur.toList.length:=by rw [Array.length_toList];omega
  rw [h2,Array.toList_setIfInBounds,List.take_succ_eq_append_getElem (by rw [List.length_set];exact hl),List.getElem_set_self,List.take_set_of_le (Nat.le_refl _),List.drop_set_of_lt (by omega)];simp [Nat.add_assoc,Nat.add_comm 1]
theorem Iq {w:World} {base e K g n cap o:Nat} {xs cs:List Value} (h:w.ownsRow base e K (.slice (some ⟨g,0,none⟩) n cap) n xs) (ho:o+cs.length<=n*K):
 (w.setCells g o cs).ownsRow base e K (.slice (some ⟨g,0,none⟩) n cap) n (xs.take o++cs++xs.drop (o+cs.length)):=by
 obtain⟨hl,h1⟩:=h;rcases h1 with⟨hv,hn⟩|⟨g',cap',cur,hv,hb,hg,hnc,hm,hs,ht⟩
 ·cases hv
 ·simp only [Value.slice.injEq,Option.some.injEq,Addr.mk.injEq,and_true,true_and] at hv
  obtain⟨rfl,rfl⟩:=hv;have rh:n*K<=cap*K:=Nat.mul_le_mul_right _ hnc;obtain⟨cur',h2,h3⟩:=NK cs o hg (by omega);have hcl:cur.toList.length=cap*K:=by rw [Array.length_toList,hs]
  refine⟨by simp only [List.length_append,List.length_take,List.length_drop,hl];omega, .inr ⟨g,cap,cur',rfl,hb,h2,hnc,hm,?_,?_⟩⟩
  ·have:=congrArg List.length h3
   simp only [Array.length_toList,List.length_append,List.length_take,List.length_drop] at this;omega
  ·rw [h3,<-ht,List.take_append,List.take_of_length_le (by simp only [List.length_append,List.length_take];omega),List.take_take,Nat.min_eq_left (by omega)]
   congr 1;rw [List.take_drop];congr 2;simp only [List.length_append,List.length_take,hcl];omega
structure aT (T:az) (a b:World):Prop where
 os:b.os=a.os
 tape:b.tape=a.tape
 output:b.output=a.output
 size:a.heap.size<=b.heap.size
 block:∀k,T k->k<a.heap.size->b.heap[k]? =a.heap[k]?
theorem aT.refl (T:az) (a:World):aT T a a:=⟨rfl,rfl,rfl,Nat.le_refl _,fun _ _ _=>rfl⟩
theorem aT.trans {T:az} {a b c:World} (h:aT T a b) (k:aT T b c):aT T a c:=
 ⟨k.os.trans h.os,k.tape.trans h.tape,k.output.trans h.output,Nat.le_trans h.size k.size,fun i hi hl=>(k.block i hi (Nat.lt_of_lt_of_le hl h.size)).trans (h.block i hi hl)⟩
theorem Ext.upd {a b:World} (e:Ext a b) (T:az):aT T a b:=⟨e.os,e.tape,e.output,e.size,fun k _ hl=>Below.block e k hl⟩
theorem aT.ext {T:az} {a b c:World} (h:aT T a b) (e:Ext b c):aT T a c:=h.trans (e.upd T)
theorem aT.alloc {T:az} {a b:World} (h:aT T a b) (o:Obj):aT T a (b.alloc o):=h.ext ((Ext.refl b).alloc o)
theorem aT.drew {T:az} {a b:World} (h:aT T a b):aT T a b.drew:=h.ext ((Ext.refl b).drew)
theorem aT.drewN {T:az} {a b:World} (h:aT T a b) (n:Nat):aT T a (b.drewN n):=h.ext ((Ext.refl b).drewN n)
theorem aT.set {T:az} {a b:World} (h:aT T a b) {p:Addr} (hp:T p.block->a.heap.size<=p.block) (v:Value):aT T a (b.setCell p v):=
 ⟨h.os,h.tape,h.output,Nat.le_trans h.size (Nat.le_of_eq (by simp)),fun k hk hl=>(Below.heap_setCell _ _ _ _ (fun e=>by subst e;have:=hp hk;omega)).trans (h.block k hk hl)⟩
theorem aT.sets {T:az} {a b:World} (h:aT T a b) {g:Nat} (hg:T g->a.heap.size<=g) (o:Nat) (cs:List Value):aT T a (b.setCells g o cs):=by
 induction cs generalizing b o with
 |nil=>exact h
 |cons c r ih=>exact ih (h.set (p:=⟨g,o,none⟩) hg c) _
theorem aT.grown {T:az} {a b c:World} (h:aT T a b) {row:Option Nat} (g:b.grownBy c row) (hr:∀k,row=some k->T k->a.heap.size<=k):aT T a c:=
 ⟨g.os.trans h.os,g.tape.trans h.tape,g.output.trans h.output,Nat.le_trans h.size g.size,fun k hk hl=>(g.block k (Nat.lt_of_lt_of_le hl h.size) (fun e=>by have:=hr k e.symm hk;omega)).trans (h.block k hk hl)⟩
theorem aT.kept {T:az} {a b:World} (h:aT T a b):Kept T a b:=h.block
theorem aT.mono {S T:az} {a b:World} (h:aT S a b) (k:∀b,T b->S b):aT T a b:=⟨h.os,h.tape,h.output,h.size,fun i hi=>h.block i (k i hi)⟩
theorem aT.to {a b c:World} (e:Ext a b) (h:aT (fun k=>k<a.heap.size) b c):Ext a c:=Below.trans e ⟨h.os,h.tape,h.output,h.size,fun k hk=>h.block k hk (Nat.lt_of_lt_of_le hk e.size)⟩
theorem fy {T:az} {a b:World} (h:aT T a b:=by with_reducible repeat (first|exact aT.refl _ _|assumption|apply aT.drew|apply aT.drewN|apply aT.alloc|(refine aT.set ?_ ?_ _;rotate_left;(focus(first|(intro _;(first|(simp;done)|(simp;omega)|omega))|(intro h;exact absurd rfl h)|(intro h;exact absurd h (by assumption)))))|(refine aT.ext ?_ (by assumption))|(refine aT.trans ?_ (by assumption)))):aT T a b:=h
theorem aQ {w:World} {n:Nat} {vs:Array Value} {T:TypeId} (h:af w n vs T:=by(with_reducible apply af.to);(focus(with_reducible repeat (first|assumption|(apply af.new;(focus(first|rfl|(first|(simp;done)|(simp;omega)|omega))))|apply af.set|(apply af.other;rotate_left;(focus(first|(simp;done)|(simp;omega)|omega));rotate_right)|apply af.alloc|apply af.drew|(apply af.ext;(focus assumption)))));(first|rfl|(simp;done)|(go_light;simp [*];done))):af w n vs T:=h
structure ey (w:World) (P:az) (r:Nat) (s:Sv) (v:Value) (xs:List Value):Prop where
 box:af w r #[v, .int .i64 s.time, .int .i64 s.last, .int .i64 s.acts] 74
 pr:P r
 own:w.ownsRow 0 41 15 v s.ax.length xs
 row:∀g,v.ownBlock=some g->P g/\g≠r
 cells:fY w (fun b=>P b/\b≠r/\v.ownBlock≠some b) s.ax xs
def Sat (w:World) (P:az) (r:Nat) (s:Sv):Prop:=∃v xs,ey w P r s v xs
theorem ey.keep {w w':World} {P:az} {r:Nat} {s:Sv} {v:Value} {xs:List Value} (h:ey w P r s v xs) (e:Kept P w w'):ey w' P r s v xs:=by
 refine⟨?_,h.pr,dX h.own (fun b hb he=>e b (h.row b he).1 hb),h.row,h.cells.keep (fun b hb hl=>e b hb.1 hl) (fun _ h _=>h)⟩;have:=h.box;have hl:=this.lt;unfold af at*;rw [e _ h.pr hl];exact this
theorem ey.ext {w w':World} {P:az} {r:Nat} {s:Sv} {v:Value} {xs:List Value} (h:ey w P r s v xs) (e:Ext w w'):ey w' P r s v xs:=h.keep (e.kept P)
theorem ey.mono {w:World} {P Q:az} {r:Nat} {s:Sv} {v:Value} {xs:List Value} (h:ey w P r s v xs) (hq:∀b,P b->Q b):ey w Q r s v xs:=
 ⟨h.box,hq _ h.pr,h.own,fun g hg=>⟨hq _ (h.row g hg).1,(h.row g hg).2⟩,h.cells.keep (fun _ _ _=>rfl) (fun b hb _=>⟨hq _ hb.1,hb.2⟩)⟩
theorem Sat.ext {w w':World} {P:az} {r:Nat} {s:Sv} (h:Sat w P r s) (e:Ext w w'):Sat w' P r s:=by obtain⟨v,xs,h⟩:=h;exact⟨v,xs,h.ext e⟩
theorem Sat.keep {w w':World} {P:az} {r:Nat} {s:Sv} (h:Sat w P r s) (e:Kept P w w'):Sat w' P r s:=by obtain⟨v,xs,h⟩:=h;exact⟨v,xs,h.keep e⟩
theorem Sat.mono {w:World} {P Q:az} {r:Nat} {s:Sv} (h:Sat w P r s) (hq:∀b,P b->Q b):Sat w Q r s:=by obtain⟨v,xs,h⟩:=h;exact⟨v,xs,h.mono hq⟩
theorem ey.old {w:World} {P:az} {r:Nat} {s:Sv} {v:Value} {xs:List Value} (h:ey w P r s v xs):ey w (fun b=>P b/\b<w.heap.size) r s v xs:=
 ⟨h.box,⟨h.pr,h.box.lt⟩,h.own,fun g hg=>⟨⟨(h.row g hg).1,(h.own.lt g hg).2⟩,(h.row g hg).2⟩,h.cells.keep (fun _ _ _=>rfl) (fun b hb hl=>⟨⟨hb.1,hl⟩,hb.2⟩)⟩
theorem Vi {w:World} {g o n m:Nat} {cs:List Value} (h:∀q u,cs[q]? =some u->w.cell? ⟨g,o+q,none⟩=some u/\w.frozen? ⟨g,o+q,none⟩=false) (hn:m+n<=cs.length):w.there g (o+m) n:=fun j hj=>by
 have:=h (m+j) _ (List.getElem?_eq_getElem (by omega));rw [Nat.add_assoc];exact⟨by rw [this.1];rfl,this.2⟩
theorem ey.thing {w:World} {P:az} {r:Nat} {s:Sv} {v:Value} {xs:List Value} (h:ey w P r s v xs) {k:Nat} (hk:k<s.ax.length):
 ∃g c ka kc la lc oa oc,v= .slice (some ⟨g,0,none⟩) s.ax.length c/\g<w.heap.size/\g≠r/\P g/\s.ax.length<=c/\ (∀q u,((s.ax[k]).cells ka kc la lc oa oc)[q]? =some u->w.cell? ⟨g,k*15+q,none⟩=some u/\w.frozen? ⟨g,k*15+q,none⟩=false)/\
  ji w (fun b=>P b/\b≠r/\b≠g) s.ax[k] ka kc la lc oa oc:=by
 obtain⟨ka,kc,la,lc,oa,oc,h1,h2⟩:=h.cells.at hk;obtain⟨hl,h3⟩:=h.own;rcases h3 with⟨-,h0⟩|⟨g,cap,cur,rfl,hb,hg,hnc,hm,hs,ht⟩
 ·omega
 ·have hrow:=h.row g rfl
  have hB:af w g cur 41:=hg;refine⟨g,cap,ka,kc,la,lc,oa,oc,rfl,hB.lt,hrow.2,hrow.1,hnc,?_,h2.keep (fun _ _ _=>rfl) (fun b hb _=>⟨hb.1,hb.2.1,fun e=>hb.2.2 (by rw [e];rfl)⟩)⟩;intro q u hq;refine⟨?_,hB.free _⟩;rw [<-h1,List.getElem?_take] at hq
  split at hq
  ·rw [List.getElem?_drop,<-ht,List.getElem?_take] at hq
   split at hq
   ·rw [hB.cells];simpa using hq
   ·cases hq
  ·cases hq
theorem W7 (base g m cap k:Nat) (cur:Array Value) (w:World) (hb:base<=g) (hg:w.heap[g]? =some (.cells cur 41 (0,0))) (hnc:m<cap) (hm:cap<=maxLen) (hcs:cur.size=cap*15)
 (hk:k<=m) (h1c:∀u∈cur.toList.take ((m+1)*15),u.oneCell'=true):
 Calls prog 55 #[.slice (some ⟨g,0,none⟩) (m+1) cap, .int .i64 k, .int .i64 ((k:Int)+1)] w fun e w'=>e= .returned (.slice (some ⟨g,0,none⟩) m cap)/\
  w'.ownsRow base 41 15 (.slice (some ⟨g,0,none⟩) m cap) m ((cur.toList.take ((m+1)*15)).take (k*15)++(cur.toList.take ((m+1)*15)).drop ((k+1)*15))/\w.grownBy w' (some g):=by
 obtain⟨i0,hi,hz0,hz1,hz2⟩:=info_parts Tryz.Cc;have hm2:cap<=9223372036854775807:=hm;have Ak:(m+1)*15<=cap*15:=Nat.mul_le_mul_right _ hnc;obtain⟨cs,bY⟩:∃cs,cs=(cur.toList.take ((m+1)*15)).drop ((k+1)*15):=⟨_,rfl⟩;have hcl:cs.length=(m-k)*15:=by rw [bY];simp;omega
 have hdel:=Jc cur.toList ([Value.string ⟨#[]⟩, .int .i64 0, .int .i64 0, .string ⟨#[]⟩, .slice none 0 0, .slice none 0 0, .slice none 0 0, .int .i64 0, .int .i64 0, .string ⟨#[]⟩, .string ⟨#[]⟩, .int .i64 0, .int .i64 0, .int .i64 0, .int .i64 0]:List Value) (k*15) 15 ((m+1)*15) (by omega) (by rw [Array.length_toList,hcs];omega) rfl cs (by rw [bY];first|done|(congr 1<;>omega));simp only at hdel;rw [show (m+1)*15-15=m*15 by omega] at hdel;obtain⟨ay,hl2,aR⟩:=hdel;obtain⟨c1,hc1⟩:∃c1,c1=cur.toList.take (k*15)++cs++cur.toList.drop (k*15+cs.length):=⟨_,rfl⟩;rw [<-hc1] at ay hl2 aR;obtain⟨W1,hW1⟩:∃W1,W1=w.drew.setRow g c1.toArray:=⟨_,rfl⟩;have hg1:W1.heap[g]? =some (.cells c1.toArray 41 (0,0)):=by rw [hW1];exact setRow_heap w.drew g cur _ 41 _ hg
 have hap:∀(ad:Addr) ty,(cap=k+1\/ad=⟨g,(k+1)*15,none⟩)-> (Builtin.append_ #[26,26] ty #[.slice (some ⟨g,0,none⟩) k cap, .slice (some ad) (m+1-(k+1)) (cap-(k+1))]).run prog w.drew= .ok (.slice (some ⟨g,0,none⟩) m cap) W1:=fun ad ty had=>by
  have hsrc:∀j u,cs[j]? =some u->w.drew.cell? (ad.add j)=some u:=by
   rcases had with h|rfl
   ·have h0:m-k=0:=by omega
    have:cs.length=0:=by rw [hcl,h0,Nat.zero_mul]
    obtain rfl:=List.eq_nil_of_length_eq_zero this;intro j u hj;simp at hj
   ·intro j v hj
    rw [Addr.add_lit,bY,List.getElem?_drop,List.getElem?_take] at*
    split at hj
    ·show w.cell? _=_
     rw [cell_of_row w g _ cur _ _ hg];simpa using hj
    ·cases hj
  have h:=run_append_room (P:=prog) w.drew 26 ty 41 i0 underlying26 hi g k cap cur hg ad (m+1-(k+1)) (cap-(k+1)) cs (by rw [hz1,hcl];first|done|(congr 1;omega)) hsrc (fun u hu=>h1c u (List.mem_of_mem_drop (by rw [<-bY];exact hu))) (by omega) (by rw [hz1,hcl,hcs];omega);rw [h,hW1,hc1,hz1];rw [show k+(m+1-(k+1))=m by omega]
  first|done|simp only [Nat.mul_one]
 obtain⟨W2,hW2⟩:∃W2,W2=W1.setRow g (c1.take (m*15)++([Value.string ⟨#[]⟩, .int .i64 0, .int .i64 0, .string ⟨#[]⟩, .slice none 0 0, .slice none 0 0, .slice none 0 0, .int .i64 0, .int .i64 0, .string ⟨#[]⟩, .string ⟨#[]⟩, .int .i64 0, .int .i64 0, .int .i64 0, .int .i64 0]:List Value)++c1.drop (m*15+15)).toArray:=⟨_,rfl⟩;have hsz1:c1.toArray.size=cap*15:=by rw [List.size_toArray,aR,Array.length_toList,hcs]
 have Ce:∀ty,(Builtin.clear_ #[26] ty #[.slice (some ⟨g,m*15,none⟩) 1 (cap-m)]).run prog W1= .ok (.tuple #[]) W2:=fun ty=>by have hz:(.agg #[Value.string ⟨#[]⟩, .int .i64 0, .int .i64 0, .string ⟨#[]⟩, .slice none 0 0, .slice none 0 0, .slice none 0 0, .int .i64 0, .int .i64 0, .string ⟨#[]⟩, .string ⟨#[]⟩, .int .i64 0, .int .i64 0, .int .i64 0, .int .i64 0]:Value).cells.size=15:=rfl;have h:=Jd (P:=prog) W1 26 41 ty (.agg #[Value.string ⟨#[]⟩, .int .i64 0, .int .i64 0, .string ⟨#[]⟩, .slice none 0 0, .slice none 0 0, .slice none 0 0, .int .i64 0, .int .i64 0, .string ⟨#[]⟩, .string ⟨#[]⟩, .int .i64 0, .int .i64 0, .int .i64 0, .int .i64 0]) underlying26 (fun w=>by simp [Go.zeroValue,typeInfo,hi,hz0]) (by decide) g (m*15) (cap-m) c1.toArray 41 hg1 (by rw [hsz1,hz];omega);rw [h,hW2];rfl
 have iW:W2.ownsRow base 41 15 (.slice (some ⟨g,0,none⟩) m cap) m ((cur.toList.take ((m+1)*15)).take (k*15)++(cur.toList.take ((m+1)*15)).drop ((k+1)*15)):=by
  rw [hW2];refine rH hb (setRow_heap W1 g _ _ 41 _ hg1) (by omega) hm ?_ ?_
  ·rw [List.size_toArray,hl2,Array.length_toList,hcs]
  ·rw [show m*15=m*15 by omega]
   rw [List.toList_toArray,ay]
   try(congr 2<;>omega)
 have iX:w.grownBy W2 (some g):=by rw [hW2,hW1];exact rI (nI (jE w.drew g _)) (jE _ g _)
 have mixed:prog.follows Departure.mixedOrders=true:=by kernel_rfl
 have hz3:¬((k:Int)=(k:Int)+1):=by omega
 have hb1:(0:Int)<= (k:Int)+1:=by omega
 have htn:((k:Int)+1).toNat=k+1:=by omega
 have hin:k<=cap:=by omega
 have bN:k+1<=cap:=by omega
 have bf:k<=k+1:=by omega
 have cU:k+1<=m+1:=by omega
 have ej:m+1<=cap:=by omega
 have cn:m<=m+1:=by omega
 have hb3:((k:Int)+1)<= ((m:Int)+1):=by omega
 have hcm:¬(cap=m):=by omega
 have hcm2:m+1-m=1:=by omega
 have mI:=ae iW;have jF:=ae iX;clear iW iX hW2 hsz1 hW1 hg1 ay hl2 aR hc1 bY hcl hg h1c hcs hi hz0 hz1 hz2;by_cases wD:cap=k+1
 ·obtain rfl:m=k:=by omega
  subst wD;have rJ:=fun ty=>hap ⟨g,0,none⟩ ty (.inl rfl);clear hap;have Je:(m:Int)<= (m:Int)+1:=by omega
  rw [show m+1-m=1 by omega] at Ce;go_enter func55,ntmps55;go_wp2_with fail
  go_region_law_o (refine Al rfl _ _ 26 26 rfl _ _ (by simp [Act.eval,Act.put]) (by simp [Act.eval,Act.put]) (rJ _) ?_)
  go_wp2;go_ret;exact⟨rfl,mI.out,jF.out⟩
 ·have rJ:=fun ty=>hap ⟨g,(k+1)*15,none⟩ ty (.inr rfl)
  clear hap;go_enter func55,ntmps55;go_wp2_with fail
  go_region_law_o (refine Al rfl _ _ 26 26 rfl _ _ (by simp [Act.eval,Act.put]) (by simp [Act.eval,Act.put,wD]) (rJ _) ?_)
  go_wp2;go_ret;exact⟨rfl,mI.out,jF.out⟩
end Go.Proofs.YtlcebdaghmdkeabGreatDoor
