import Derived.Test.YtlcebdaghmdkeabGreatDoorZ1
set_option linter.all false
set_option maxRecDepth 100000
set_option maxHeartbeats 64000000
namespace Go.Proofs.YtlcebdaghmdkeabGreatDoor
open Go.RowKit
structure St where
 sb:ah
 cm:ah
 ph:Int
 sp:Int
 wt:Int
 si:Int
def mE (wt p:Int):Bool:=decide ((wt= -1/\0<=p/\p<=1099511627776)\/ (0<=wt/\wt<=100/\p=0))
def pH (xs:List (Int×Int)):Bool:=xs.all fun x=>mE x.1 x.2
def kq (im:ah) (xs:List (Int×Int)):Bool:=decide (im.toList≠ [])&&decide (im.size<=60)&&decide (xs.length<=8)&&pH xs
def iy (s:St):Bool:=
 decide (s.sb.toList≠ []/\s.cm.toList≠ []/\0<=s.sp/\s.sp<=8/\0<=s.wt/\s.wt<=100/\0<=s.si/\s.si<=1099511627776/\ (s.ph≠3->s.si=0)/\
  ((s.ph=1/\s.sb.toList=s.cm.toList/\s.wt=100/\s.sp=0)\/ (s.ph=4/\s.wt=0/\s.sp=0/\s.sb.toList≠s.cm.toList)\/ ((s.ph=2\/s.ph=3)/\s.sb.toList≠s.cm.toList)))
def qo (i:ah):St:=⟨i,i,1,0,100,0⟩
def rq (now:Int):List (Int×Int)->St->Int->St
 | [],s,_=>qo s.cm
 |x::r,s,o=>
  if 0<=x.1 then rq now r {s with wt:=x.1,ph:=2,si:=0,sp:=s.sp+1} o
  else if s.ph≠3 then {s with ph:=3,si:=now}
  else if o=1 then rq now r {s with ph:=2,si:=0,sp:=s.sp+1} 0
  else if x.2=0\/now<s.si\/now-s.si<x.2 then s
  else rq now r {s with ph:=2,si:=0,sp:=s.sp+1} o
def cS (im:ah) (s:St):St:=if im.toList=s.cm.toList then s else⟨s.sb,im,2,0,0,0⟩
def fD (im:ah) (xs:List (Int×Int)) (s:St) (now order:Int):St×Int:=
 if kq im xs=false\/iy s=false then(s,1)
 else if now<0\/1099511627776<now then(s,8)
 else if order<0\/3<order then(s,9)
 else if im.toList≠s.cm.toList/\im.toList=s.sb.toList then(qo s.sb,0)
 else if(cS im s).ph≠2/\ (cS im s).ph≠3 then(cS im s,0)
 else if order=2 then(qo (cS im s).cm,0)
 else if order=3 then(⟨(cS im s).sb,(cS im s).cm,4,0,0,0⟩,0)
 else(rq now (xs.drop (cS im s).sp.toNat) (cS im s) order,0)
abbrev St.val (s:St):Value:= .agg #[.string s.sb, .string s.cm, .int .i64 s.ph, .int .i64 s.sp, .int .i64 s.wt, .int .i64 s.si]
end Go.Proofs.YtlcebdaghmdkeabGreatDoor
namespace Go.Proofs.YtlcebdaghmdkeabGreatDoor
structure bM where
 k:Int
 p:ah
 f:ah
 v:V
def A4 (f p:ah):Bool:=(f.data.toList++ [47]).isPrefixOf p.data.toList
def nR (x:V) (f p:ah) (y:V):V×Int:=
 if A4 f p=true then(x,1) else if f=p then(x,0)
 else if(jU x f).2≠0 then(x,(jU x f).2)
 else if(eV (jU x f).1 p y).2≠0 then(x,(eV (jU x f).1 p y).2) else((eV (jU x f).1 p y).1,0)
def bO (x:V) (o:bM):V×Int:=
 if o.k=1 then eV x o.p o.v else if o.k=2 then jU x o.p else if o.k=3 then jT x o.p o.v
 else if o.k=4\/o.k=5 then
  if(bZ x o.f).2≠0 then(x,(bZ x o.f).2)
  else if o.k=5 then eV x o.p (bZ x o.f).1
  else nR x o.f o.p (bZ x o.f).1
 else if o.k=6 then
  if(bZ x o.p).2≠0 then(x,(bZ x o.p).2)
  else if(bZ x o.p).1.same o.v=true then(x,0) else(x,4)
 else(x,9)
def fc:List bM->V->V×Int
 | [],x=>(x,0)
 |o::r,x=>if(bO x o).2≠0 then bO x o else fc r (bO x o).1
def kK (x:V) (l:List bM):V×Int:=if 20<l.length then(x,2) else if(fc l x).2≠0 then(x,(fc l x).2) else((fc l x).1,0)
theorem Kn (x:V) (p:ah):((jU x p).2≠0-> (jU x p).1=x)/\ ((jU x p).2=0-> (jU x p).1.fine=true):=by
 unfold jU;refine⟨Ko,fun h=> ?_⟩;obtain⟨l,hn,hl,hf,h0,hg,he⟩:=Kp h;rw [he];exact hg
theorem Kq {x:V} {p:ah} (h:(bZ x p).2=0):x.fine=true:=by
 unfold bZ at h
 split at h
 ·simp at h
 ·by_cases hf:x.fine=false
  ·rw [if_pos hf] at h;simp at h
  ·simpa using hf
theorem Qn:∀(l:List ah) (x y:V),fG l x=some y->∀d:Int,x.good d=true-> (∃e,d<=e/\y.good e=true)/\y.count<=x.count
 | [],x,y,h,d,hd=>by
   have h:x=y:=by simpa [fG] using h
   subst h;exact⟨⟨d,Int.le_refl _,hd⟩,Nat.le_refl _⟩
 |a::r,x,y,h,d,hd=>by
  cases hc:x.child a with
  |none=>simp [fG,hc] at h
  |some i=>
   have hi:=wG (Fv hd) hc;have h:fG r x.l[i]=some y:=by simpa [fG,hc,hi] using h
   obtain⟨⟨e,h1,h2⟩,h3⟩:=Qn r _ y h (d+1) (Fw hd hi);have:=V.E9 hi;exact⟨⟨e,by omega,h2⟩,by omega⟩
theorem Zb {x:V} {p:ah} (h:(bZ x p).2=0):(bZ x p).1.fine=true:=by
 have hf:=Kq h;unfold bZ at h⊢
 cases hn:cJ p with
 |none=>rw [hn] at h;simp at h
 |some l=>
  rw [hn] at h;simp only at h⊢;rw [if_neg (by rw [hf];decide)] at h⊢
  cases hg:fG l x with
  |none=>rw [hg] at h;simp at h
  |some y=>
   simp only;simp only [V.fine,Bool.and_eq_true,decide_eq_true_eq] at hf⊢;obtain⟨⟨e,h1,h2⟩,h3⟩:=Qn l x y hg 1 hf.1;exact⟨Kr h2 h1,by omega⟩
theorem Zc {x:V} {p:ah} (h:(bZ x p).2≠0):(bZ x p).1=V.zero:=by
 unfold bZ at h⊢
 cases hn:cJ p with
 |none=>rfl
 |some l=>
  rw [hn] at h;simp only at h⊢;by_cases hf:x.fine=false
  ·rw [if_pos hf]
  ·rw [if_neg hf] at h⊢
   cases hg:fG l x with
   |none=>rfl
   |some y=>rw [hg] at h;simp at h
theorem pq (x:V) (p:ah):(bZ x p).1.size<=14640:=by
 by_cases h:(bZ x p).2=0
 ·exact oV (Zb h)
 ·rw [Zc h,V.size_eq];decide
theorem Zd (x:V) (f p:ah) (y:V) (hx:x.fine=true):((nR x f p y).2≠0-> (nR x f p y).1=x)/\ ((nR x f p y).2=0-> (nR x f p y).1.fine=true):=by
 unfold nR
 split
 ·exact⟨fun _=>rfl,fun h=>by simp at h⟩
 ·split
  ·exact⟨fun h=>absurd rfl h,fun _=>hx⟩
  ·split
   ·exact⟨fun _=>rfl,fun h=>absurd h (by assumption)⟩
   ·split
    ·exact⟨fun _=>rfl,fun h=>absurd h (by assumption)⟩
    ·rename_i h1 h2
     exact⟨fun h=>absurd rfl h,fun _=>((Dd _ y p).2 (by simpa using h2)).1⟩
theorem Ze (x:V) (o:bM):((bO x o).2≠0-> (bO x o).1=x)/\ ((bO x o).2=0-> (bO x o).1.fine=true):=by
 unfold bO
 split
 ·exact⟨(Dd x o.v o.p).1,fun h=>((Dd x o.v o.p).2 h).1⟩
 split
 ·exact Kn x o.p
 split
 ·exact⟨(Qo x o.v o.p).1,fun h=>((Qo x o.v o.p).2 h).1⟩
 split
 ·split
  ·rename_i h;exact⟨fun _=>rfl,fun h'=>absurd h' h⟩
  ·rename_i h
   have hx:=Kq (by simpa using h)
   split
   ·exact⟨(Dd x _ o.p).1,fun h=>((Dd x _ o.p).2 h).1⟩
   ·exact Zd x o.f o.p _ hx
 split
 ·split
  ·rename_i h;exact⟨fun _=>rfl,fun h'=>absurd h' h⟩
  ·rename_i h
   have hx:=Kq (by simpa using h)
   split
   ·exact⟨fun h=>absurd rfl h,fun _=>hx⟩
   ·exact⟨fun _=>rfl,fun h=>by simp at h⟩
 ·exact⟨fun _=>rfl,fun h=>by simp at h⟩
theorem Ks:∀(l m:List bM) (x:V),fc (l++m) x=if(fc l x).2≠0 then fc l x else fc m (fc l x).1
 | [],m,x=>by rw [List.nil_append,fc,if_neg (by simp)]
 |o::r,m,x=>by
  rw [List.cons_append,fc,fc];by_cases h:(bO x o).2≠0
  ·rw [if_pos h,if_pos h,if_pos h]
  ·rw [if_neg h,if_neg h]
   exact Ks r m _
theorem Zf (l:List bM) (o:bM) (x:V) (h:(fc l x).2=0):fc (l++ [o]) x=bO (fc l x).1 o:=by
 rw [Ks,if_neg (by simp [h]),fc]
 split
 ·rfl
 ·rename_i h'
  rw [fc];exact Prod.ext rfl (by simpa using Eq.symm (by simpa using h'))
theorem Kt:∀(l:List bM) (x:V),(fc l x).2=0-> (l= []/\ (fc l x).1=x)\/ (fc l x).1.fine=true
 | [],x,_=> .inl ⟨rfl,by rw [fc]⟩
 |o::r,x,h=>by
  rw [fc] at h⊢
  split at h
  ·rename_i h';exact absurd h h'
  ·rename_i h'
   rw [if_neg h'];have h0:(bO x o).2=0:=by simpa using h'
   rcases Kt r _ h with⟨-,he⟩|hf
   ·rw [he];exact .inr ((Ze x o).2 h0)
   ·exact .inr hf
theorem Zg (l:List bM) (x:V) (h:(fc l x).2=0):(fc l x).1.size<=max x.size 14640:=by
 rcases Kt l x h with⟨-,he⟩|hf
 ·rw [he];omega
 ·have:=oV hf;omega
theorem Zh (x:V) (l:List bM):((kK x l).2≠0-> (kK x l).1=x)/\ ((kK x l).2=0->l= []\/ (kK x l).1.fine=true):=by
 unfold kK
 split
 ·exact⟨fun _=>rfl,fun h=>by simp at h⟩
 ·split
  ·rename_i h;exact⟨fun _=>rfl,fun h'=>absurd h' h⟩
  ·rename_i h
   refine⟨fun h'=>absurd rfl h',fun _=> ?_⟩;rcases Kt l x (by simpa using h) with⟨h1,-⟩|hf
   ·exact .inl h1
   ·exact .inr hf
theorem Zi (p:ah):A4 p p=false:=by
 unfold A4;rw [Bool.eq_false_iff];intro h;have:=(List.isPrefixOf_iff_prefix.1 h).length_le;rw [List.length_append,List.length_singleton] at this;omega
theorem Zj {x:V} {f:ah} {y:V}:nR x f f y=(x,0):=by
 unfold nR;rw [Zi,if_neg (by decide),if_pos rfl]
end Go.Proofs.YtlcebdaghmdkeabGreatDoor
namespace Go.Proofs.YtlcebdaghmdkeabGreatDoor
open Go.Proofs.Tryz
open Go.RowKit
theorem vS (s:ah) (w:World):Calls prog 122 #[.string s] w fun e w'=>e= .returned (.agg #[.string s, .string s, .int .i64 1, .int .i64 0, .int .i64 100, .int .i64 0])/\Ext w w':=by
 go_enter func122,ntmps122;go_wp2;exact bodyPost_ret (v:= .agg #[.string s, .string s, .int .i64 1, .int .i64 0, .int .i64 100, .int .i64 0]) (by simp [results,results122,go_sem]) rfl ⟨rfl,(Ext.refl _).alloc _⟩
theorem Ez (wt p:Int) (w:World):Calls prog 40 #[.agg #[.int .i64 wt, .int .i64 p]] w fun e w'=>e= .returned (.bool (mE wt p))/\Ext w w':=by
 go_enter func40,ntmps40;go_wp2
 all_goals go_ret
 all_goals refine⟨dv ?_,(Ext.refl _).alloc _⟩
 all_goals go_light
 all_goals unfold mE
 all_goals grind
theorem BG (s:St) (w:World):Calls prog 20 #[.agg #[.string s.sb, .string s.cm, .int .i64 s.ph, .int .i64 s.sp, .int .i64 s.wt, .int .i64 s.si]] w fun e w'=>e= .returned (.bool (iy s))/\Ext w w':=by
 obtain⟨sb,cm,ph,sp,wt,si⟩:=s;go_enter func20,ntmps20;go_wp2
 all_goals go_ret
 all_goals refine⟨dv ?_,(Ext.refl _).alloc _⟩
 all_goals go_light
 all_goals simp only [iy]
 all_goals grind
theorem aex (wt p:Int) (w:World):Calls prog 174 #[.agg #[.int .i64 wt, .int .i64 p]] w fun e w'=>e= .returned (.bool (!mE wt p))/\Ext w w':=by
 go_enter func174,ntmps174;go_wp2_with (go_at_call 40;(with_reducible refine(Ez _ _ _).mono ?_);rintro e w1 ⟨rfl,h1⟩;obtain⟨hc1,aA,hz1⟩:=cp h1;(try simp at hz1);(try have kr:w.heap.size<w1.heap.size:=by omega);(try have jN:w.heap.size+1<w1.heap.size:=by omega);(try have ku:w.heap.size+2<w1.heap.size:=by omega);(try have kv:w.heap.size+3<w1.heap.size:=by omega));go_ret;exact⟨rfl,Xt⟩
def StepsIn (w:World) (a:au) (xs:List (Int×Int)):Prop:=
 xs= []\/∃b o,a=some ⟨b,o,none⟩/\∀i,i<xs.length->w.cell? ⟨b,o+i*2,none⟩=some (.int .i64 (xs.getD i (0,0)).1)/\w.cell? ⟨b,o+i*2+1,none⟩=some (.int .i64 (xs.getD i (0,0)).2)
theorem StepsIn.ext {w w':World} {a:au} {xs:List (Int×Int)} (h:StepsIn w a xs) (e:Ext w w'):StepsIn w' a xs:=by
 rcases h with h|⟨b,o,h,k⟩
 ·exact .inl h
 ·exact .inr ⟨b,o,h,fun i hi=>⟨e.cell (k i hi).1,e.cell (k i hi).2⟩⟩
theorem aey {xs:List (Int×Int)} {k:Nat} (h:k<xs.length) (h0:pH (xs.take k)=true) (h1:mE xs[k].1 xs[k].2=true):pH (xs.take (k+1))=true:=by
 rw [List.take_succ_eq_append_getElem h];simp only [pH,List.all_append,List.all_cons,List.all_nil,Bool.and_true,Bool.and_eq_true];exact⟨h0,h1⟩
theorem aez {xs:List (Int×Int)} {k:Nat} (h:k<xs.length) (h1:mE xs[k].1 xs[k].2=false):pH xs=false:=by
 simp only [pH,List.all_eq_false];exact⟨xs[k],List.getElem_mem h,by simp [h1]⟩
theorem aeA (a:au) (cap:Nat) (xs:List (Int×Int)) (w:World) (hl:xs.length<=9223372036854775807) (hs:StepsIn w a xs):
 Calls prog 208 #[.slice a xs.length cap, .func (.func 174) #[] #[]] w fun e w'=>∃n:Int,e= .returned (.int .i64 n)/\decide (0<=n)= !pH xs/\Ext w w':=by
 rcases hs with rfl|⟨b,o,rfl,hc⟩
 ·go_enter func208,ntmps208
  go_wp2;refine wp_loop_rounds 1 ?_;rw [rounds_succ];go_wp2;go_ret;exact⟨_,rfl,by simp [pH],Ext.refl _⟩
 ·go_enter func208,ntmps208
  go_wp2
  go_loopg [5,8] xs.length (fun g _ i wr=>∃k:Nat,k<=xs.length/\i= .int .i64 k/\g=xs.length-k/\pH (xs.take k)=true/\Ext w wr)
  case atStart=>exact⟨0,by omega,rfl,rfl,rfl,Ext.refl _⟩
  case round=>
   obtain⟨k,hk,rfl,rfl,hg,hx⟩:=hrel;have Hg:=ae hg;clear hg;by_cases hlt:k<xs.length
   ·obtain⟨c0,c1⟩:=hc k hlt
    have c0:=hx.cell c0;have c1:=hx.cell c1;clear hc;go_wp2_with (go_at_call 174;(with_reducible refine(aex _ _ _).mono ?_);rintro e w1 ⟨rfl,h1⟩;obtain⟨hc1,aA,hz1⟩:=cp h1;(try simp at hz1);(try have kr:w.heap.size<w1.heap.size:=by omega);(try have jN:w.heap.size+1<w1.heap.size:=by omega);(try have ku:w.heap.size+2<w1.heap.size:=by omega);(try have kv:w.heap.size+3<w1.heap.size:=by omega))
    ·go_ret
     go_light;have h1:mE xs[k].1 xs[k].2=false:=by simp_all
     exact⟨_,rfl,by rw [aez hlt h1];simp,Xt⟩
    ·have h1:mE xs[k].1 xs[k].2=true:=by simp_all
     go_roundg (xs.length-(k+1))
     case measure=>omega
     case rel=>exact⟨k+1,by omega,by go_num,rfl,aey hlt Hg.out h1,Xt⟩
   ·go_wp2
    go_ret;have hk2:k=xs.length:=by omega
    refine⟨_,rfl,?_,hx⟩;have:=Hg.out;rw [List.take_of_length_le (by omega)] at this;rw [this];simp
theorem aeB (a:au) (cap:Nat) (xs:List (Int×Int)) (w:World) (hl:xs.length<=9223372036854775807) (hs:StepsIn w a xs):
 Calls prog 173 #[.slice a xs.length cap, .func (.func 174) #[] #[]] w fun e w'=>e= .returned (.bool (!pH xs))/\Ext w w':=by
 go_enter func173,ntmps173;go_wp2_with (go_at_call 208;refine(aeA _ _ _ _ hl hs).mono ?_;rintro e w1 ⟨n,rfl,hn,h1⟩;have Hn:=ae hn;clear hn);go_ret;exact⟨dv Hn.out,Xt⟩
theorem Es (im:ah) (a:au) (cap:Nat) (xs:List (Int×Int)) (w:World) (hl:xs.length<=9223372036854775807) (hs:StepsIn w a xs):
 Calls prog 121 #[.agg #[.string im, .slice a xs.length cap]] w fun e w'=>e= .returned (.bool (kq im xs))/\Ext w w':=by
 go_enter func121,ntmps121;go_wp2_with (go_at_call 173;(with_reducible refine(aeB _ _ _ _ hl (hs.ext Xt)).mono ?_);rintro e w1 ⟨rfl,h1⟩;obtain⟨hc1,aA,hz1⟩:=cp h1;(try simp at hz1);(try have kr:w.heap.size<w1.heap.size:=by omega);(try have jN:w.heap.size+1<w1.heap.size:=by omega);(try have ku:w.heap.size+2<w1.heap.size:=by omega);(try have kv:w.heap.size+3<w1.heap.size:=by omega))
 all_goals go_ret
 all_goals refine⟨dv ?_,Xt⟩
 all_goals go_light
 all_goals simp only [kq]
 all_goals grind
end Go.Proofs.YtlcebdaghmdkeabGreatDoor
