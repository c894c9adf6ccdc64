import Derived.Test.YtlcebdaghmdkeabGreatDoorM1
set_option linter.all false
set_option maxRecDepth 100000
set_option maxHeartbeats 64000000
namespace Go.Proofs.YtlcebdaghmdkeabGreatDoor
open Go.RowKit
structure St where
 sb:ah
 cm:ah
 ph:Int
 sp:Int
 wt:Int
 si:Int
def lV (wt p:Int):Bool:=decide ((wt= -1/\0<=p/\p<=1099511627776)\/ (0<=wt/\wt<=100/\p=0))
def oQ (xs:List (Int×Int)):Bool:=xs.all fun x=>lV x.1 x.2
def j5 (im:ah) (xs:List (Int×Int)):Bool:=decide (im.toList≠ [])&&decide (im.size<=60)&&decide (xs.length<=8)&&oQ xs
def iG (s:St):Bool:=
 decide (s.sb.toList≠ []/\s.cm.toList≠ []/\0<=s.sp/\s.sp<=8/\0<=s.wt/\s.wt<=100/\0<=s.si/\s.si<=1099511627776/\ (s.ph≠3->s.si=0)/\
  ((s.ph=1/\s.sb.toList=s.cm.toList/\s.wt=100/\s.sp=0)\/ (s.ph=4/\s.wt=0/\s.sp=0/\s.sb.toList≠s.cm.toList)\/ ((s.ph=2\/s.ph=3)/\s.sb.toList≠s.cm.toList)))
def pE (i:ah):St:=⟨i,i,1,0,100,0⟩
def qj (now:Int):List (Int×Int)->St->Int->St
 | [],s,_=>pE s.cm
 |x::r,s,o=>
  if 0<=x.1 then qj now r {s with wt:=x.1,ph:=2,si:=0,sp:=s.sp+1} o
  else if s.ph≠3 then {s with ph:=3,si:=now}
  else if o=1 then qj now r {s with ph:=2,si:=0,sp:=s.sp+1} 0
  else if x.2=0\/now<s.si\/now-s.si<x.2 then s
  else qj now r {s with ph:=2,si:=0,sp:=s.sp+1} o
def cO (im:ah) (s:St):St:=if im.toList=s.cm.toList then s else⟨s.sb,im,2,0,0,0⟩
def fy (im:ah) (xs:List (Int×Int)) (s:St) (now order:Int):St×Int:=
 if j5 im xs=false\/iG s=false then(s,1)
 else if now<0\/1099511627776<now then(s,8)
 else if order<0\/3<order then(s,9)
 else if im.toList≠s.cm.toList/\im.toList=s.sb.toList then(pE s.sb,0)
 else if(cO im s).ph≠2/\ (cO im s).ph≠3 then(cO im s,0)
 else if order=2 then(pE (cO im s).cm,0)
 else if order=3 then(⟨(cO im s).sb,(cO im s).cm,4,0,0,0⟩,0)
 else(qj now (xs.drop (cO im s).sp.toNat) (cO im s) order,0)
abbrev St.val (s:St):Value:= .agg #[.string s.sb, .string s.cm, .int .i64 s.ph, .int .i64 s.sp, .int .i64 s.wt, .int .i64 s.si]
end Go.Proofs.YtlcebdaghmdkeabGreatDoor
namespace Go.Proofs.YtlcebdaghmdkeabGreatDoor
structure bE where
 k:Int
 p:ah
 f:ah
 v:V
def zW (f p:ah):Bool:=(f.data.toList++ [47]).isPrefixOf p.data.toList
def nz (x:V) (f p:ah) (y:V):V×Int:=
 if zW f p=true then(x,1) else if f=p then(x,0)
 else if(jN x f).2≠0 then(x,(jN x f).2)
 else if(eF (jN x f).1 p y).2≠0 then(x,(eF (jN x f).1 p y).2) else((eF (jN x f).1 p y).1,0)
def bI (x:V) (o:bE):V×Int:=
 if o.k=1 then eF x o.p o.v else if o.k=2 then jN x o.p else if o.k=3 then jM x o.p o.v
 else if o.k=4\/o.k=5 then
  if(cE x o.f).2≠0 then(x,(cE x o.f).2)
  else if o.k=5 then eF x o.p (cE x o.f).1
  else nz x o.f o.p (cE x o.f).1
 else if o.k=6 then
  if(cE x o.p).2≠0 then(x,(cE x o.p).2)
  else if(cE x o.p).1.same o.v=true then(x,0) else(x,4)
 else(x,9)
def eN:List bE->V->V×Int
 | [],x=>(x,0)
 |o::r,x=>if(bI x o).2≠0 then bI x o else eN r (bI x o).1
def kB (x:V) (l:List bE):V×Int:=if 20<l.length then(x,2) else if(eN l x).2≠0 then(x,(eN l x).2) else((eN l x).1,0)
theorem Je (x:V) (p:ah):((jN x p).2≠0-> (jN x p).1=x)/\ ((jN x p).2=0-> (jN x p).1.fine=true):=by
 unfold jN;refine⟨Jf,fun h=> ?_⟩;obtain⟨l,hn,hl,hf,h0,hg,he⟩:=Jg h;rw [he];exact hg
theorem Jh {x:V} {p:ah} (h:(cE x p).2=0):x.fine=true:=by
 unfold cE at h
 split at h
 ·simp at h
 ·by_cases hf:x.fine=false
  ·rw [if_pos hf] at h;simp at h
  ·simpa using hf
theorem OC:∀(l:List ah) (x y:V),fe l x=some y->∀d:Int,x.good d=true-> (∃e,d<=e/\y.good e=true)/\y.count<=x.count
 | [],x,y,h,d,hd=>by
   have h:x=y:=by simpa [fe] using h
   subst h;exact⟨⟨d,Int.le_refl _,hd⟩,Nat.le_refl _⟩
 |a::r,x,y,h,d,hd=>by
  cases hc:x.child a with
  |none=>simp [fe,hc] at h
  |some i=>
   have hi:=uX (En hd) hc;have h:fe r x.l[i]=some y:=by simpa [fe,hc,hi] using h
   obtain⟨⟨e,h1,h2⟩,h3⟩:=OC r _ y h (d+1) (Eo hd hi);have:=V.D5 hi;exact⟨⟨e,by omega,h2⟩,by omega⟩
theorem XP {x:V} {p:ah} (h:(cE x p).2=0):(cE x p).1.fine=true:=by
 have hf:=Jh h;unfold cE at h⊢
 cases hn:cI p with
 |none=>rw [hn] at h;simp at h
 |some l=>
  rw [hn] at h;simp only at h⊢;rw [if_neg (by rw [hf];decide)] at h⊢
  cases hg:fe l x with
  |none=>rw [hg] at h;simp at h
  |some y=>
   simp only;simp only [V.fine,Bool.and_eq_true,decide_eq_true_eq] at hf⊢;obtain⟨⟨e,h1,h2⟩,h3⟩:=OC l x y hg 1 hf.1;exact⟨Ji h2 h1,by omega⟩
theorem XQ {x:V} {p:ah} (h:(cE x p).2≠0):(cE x p).1=V.zero:=by
 unfold cE at h⊢
 cases hn:cI p with
 |none=>rfl
 |some l=>
  rw [hn] at h;simp only at h⊢;by_cases hf:x.fine=false
  ·rw [if_pos hf]
  ·rw [if_neg hf] at h⊢
   cases hg:fe l x with
   |none=>rfl
   |some y=>rw [hg] at h;simp at h
theorem oF (x:V) (p:ah):(cE x p).1.size<=14640:=by
 by_cases h:(cE x p).2=0
 ·exact pL (XP h)
 ·rw [XQ h,V.size_eq];decide
theorem XR (x:V) (f p:ah) (y:V) (hx:x.fine=true):((nz x f p y).2≠0-> (nz x f p y).1=x)/\ ((nz x f p y).2=0-> (nz x f p y).1.fine=true):=by
 unfold nz
 split
 ·exact⟨fun _=>rfl,fun h=>by simp at h⟩
 ·split
  ·exact⟨fun h=>absurd rfl h,fun _=>hx⟩
  ·split
   ·exact⟨fun _=>rfl,fun h=>absurd h (by assumption)⟩
   ·split
    ·exact⟨fun _=>rfl,fun h=>absurd h (by assumption)⟩
    ·rename_i h1 h2
     exact⟨fun h=>absurd rfl h,fun _=>((BX _ y p).2 (by simpa using h2)).1⟩
theorem XS (x:V) (o:bE):((bI x o).2≠0-> (bI x o).1=x)/\ ((bI x o).2=0-> (bI x o).1.fine=true):=by
 unfold bI
 split
 ·exact⟨(BX x o.v o.p).1,fun h=>((BX x o.v o.p).2 h).1⟩
 split
 ·exact Je x o.p
 split
 ·exact⟨(OD x o.v o.p).1,fun h=>((OD x o.v o.p).2 h).1⟩
 split
 ·split
  ·rename_i h;exact⟨fun _=>rfl,fun h'=>absurd h' h⟩
  ·rename_i h
   have hx:=Jh (by simpa using h)
   split
   ·exact⟨(BX x _ o.p).1,fun h=>((BX x _ o.p).2 h).1⟩
   ·exact XR x o.f o.p _ hx
 split
 ·split
  ·rename_i h;exact⟨fun _=>rfl,fun h'=>absurd h' h⟩
  ·rename_i h
   have hx:=Jh (by simpa using h)
   split
   ·exact⟨fun h=>absurd rfl h,fun _=>hx⟩
   ·exact⟨fun _=>rfl,fun h=>by simp at h⟩
 ·exact⟨fun _=>rfl,fun h=>by simp at h⟩
theorem Jj:∀(l m:List bE) (x:V),eN (l++m) x=if(eN l x).2≠0 then eN l x else eN m (eN l x).1
 | [],m,x=>by rw [List.nil_append,eN,if_neg (by simp)]
 |o::r,m,x=>by
  rw [List.cons_append,eN,eN];by_cases h:(bI x o).2≠0
  ·rw [if_pos h,if_pos h,if_pos h]
  ·rw [if_neg h,if_neg h]
   exact Jj r m _
theorem XT (l:List bE) (o:bE) (x:V) (h:(eN l x).2=0):eN (l++ [o]) x=bI (eN l x).1 o:=by
 rw [Jj,if_neg (by simp [h]),eN]
 split
 ·rfl
 ·rename_i h'
  rw [eN];exact Prod.ext rfl (by simpa using Eq.symm (by simpa using h'))
theorem Jk:∀(l:List bE) (x:V),(eN l x).2=0-> (l= []/\ (eN l x).1=x)\/ (eN l x).1.fine=true
 | [],x,_=> .inl ⟨rfl,by rw [eN]⟩
 |o::r,x,h=>by
  rw [eN] at h⊢
  split at h
  ·rename_i h';exact absurd h h'
  ·rename_i h'
   rw [if_neg h'];have h0:(bI x o).2=0:=by simpa using h'
   rcases Jk r _ h with⟨-,he⟩|hf
   ·rw [he];exact .inr ((XS x o).2 h0)
   ·exact .inr hf
theorem XU (l:List bE) (x:V) (h:(eN l x).2=0):(eN l x).1.size<=max x.size 14640:=by
 rcases Jk l x h with⟨-,he⟩|hf
 ·rw [he];omega
 ·have:=pL hf;omega
theorem XV (x:V) (l:List bE):((kB x l).2≠0-> (kB x l).1=x)/\ ((kB x l).2=0->l= []\/ (kB x l).1.fine=true):=by
 unfold kB
 split
 ·exact⟨fun _=>rfl,fun h=>by simp at h⟩
 ·split
  ·rename_i h;exact⟨fun _=>rfl,fun h'=>absurd h' h⟩
  ·rename_i h
   refine⟨fun h'=>absurd rfl h',fun _=> ?_⟩;rcases Jk l x (by simpa using h) with⟨h1,-⟩|hf
   ·exact .inl h1
   ·exact .inr hf
theorem XW (p:ah):zW p p=false:=by
 unfold zW;rw [Bool.eq_false_iff];intro h;have:=(List.isPrefixOf_iff_prefix.1 h).length_le;rw [List.length_append,List.length_singleton] at this;omega
theorem XX {x:V} {f:ah} {y:V}:nz x f f y=(x,0):=by
 unfold nz;rw [XW,if_neg (by decide),if_pos rfl]
end Go.Proofs.YtlcebdaghmdkeabGreatDoor
namespace Go.Proofs.YtlcebdaghmdkeabGreatDoor
open Go.Proofs.Tryz
open Go.RowKit
theorem uL (s:ah) (w:World):Calls prog 122 #[.string s] w fun e w'=>e= .returned (.agg #[.string s, .string s, .int .i64 1, .int .i64 0, .int .i64 100, .int .i64 0])/\Ext w w':=by
 go_enter func122,ntmps122;go_wp2;exact bodyPost_ret (v:= .agg #[.string s, .string s, .int .i64 1, .int .i64 0, .int .i64 100, .int .i64 0]) (by simp [results,results122,go_sem]) rfl ⟨rfl,(Ext.refl _).alloc _⟩
theorem Dl (wt p:Int) (w:World):Calls prog 40 #[.agg #[.int .i64 wt, .int .i64 p]] w fun e w'=>e= .returned (.bool (lV wt p))/\Ext w w':=by
 go_enter func40,ntmps40;go_wp2
 all_goals go_ret
 all_goals refine⟨cX ?_,(Ext.refl _).alloc _⟩
 all_goals go_light
 all_goals unfold lV
 all_goals grind
theorem Gi (s:St) (w:World):Calls prog 20 #[.agg #[.string s.sb, .string s.cm, .int .i64 s.ph, .int .i64 s.sp, .int .i64 s.wt, .int .i64 s.si]] w fun e w'=>e= .returned (.bool (iG s))/\Ext w w':=by
 obtain⟨sb,cm,ph,sp,wt,si⟩:=s;go_enter func20,ntmps20;go_wp2
 all_goals go_ret
 all_goals refine⟨cX ?_,(Ext.refl _).alloc _⟩
 all_goals go_light
 all_goals simp only [iG]
 all_goals grind
theorem adr (wt p:Int) (w:World):Calls prog 174 #[.agg #[.int .i64 wt, .int .i64 p]] w fun e w'=>e= .returned (.bool (!lV wt p))/\Ext w w':=by
 go_enter func174,ntmps174;go_wp2_with (go_at_call 40;(with_reducible refine(Dl _ _ _).mono ?_);rintro e w1 ⟨rfl,h1⟩;obtain⟨hc1,aA,hz1⟩:=bZ h1;(try simp at hz1);(try have j6:w.heap.size<w1.heap.size:=by omega);(try have gB:w.heap.size+1<w1.heap.size:=by omega);(try have kf:w.heap.size+2<w1.heap.size:=by omega);(try have kg:w.heap.size+3<w1.heap.size:=by omega));go_ret;exact⟨rfl,Xt⟩
def StepsIn (w:World) (a:aq) (xs:List (Int×Int)):Prop:=
 xs= []\/∃b o,a=some ⟨b,o,none⟩/\∀i,i<xs.length->w.cell? ⟨b,o+i*2,none⟩=some (.int .i64 (xs.getD i (0,0)).1)/\w.cell? ⟨b,o+i*2+1,none⟩=some (.int .i64 (xs.getD i (0,0)).2)
theorem StepsIn.ext {w w':World} {a:aq} {xs:List (Int×Int)} (h:StepsIn w a xs) (e:Ext w w'):StepsIn w' a xs:=by
 rcases h with h|⟨b,o,h,k⟩
 ·exact .inl h
 ·exact .inr ⟨b,o,h,fun i hi=>⟨e.cell (k i hi).1,e.cell (k i hi).2⟩⟩
theorem ads {xs:List (Int×Int)} {k:Nat} (h:k<xs.length) (h0:oQ (xs.take k)=true) (h1:lV xs[k].1 xs[k].2=true):oQ (xs.take (k+1))=true:=by
 rw [List.take_succ_eq_append_getElem h];simp only [oQ,List.all_append,List.all_cons,List.all_nil,Bool.and_true,Bool.and_eq_true];exact⟨h0,h1⟩
theorem adt {xs:List (Int×Int)} {k:Nat} (h:k<xs.length) (h1:lV xs[k].1 xs[k].2=false):oQ xs=false:=by
 simp only [oQ,List.all_eq_false];exact⟨xs[k],List.getElem_mem h,by simp [h1]⟩
theorem adu (a:aq) (cap:Nat) (xs:List (Int×Int)) (w:World) (hl:xs.length<=9223372036854775807) (hs:StepsIn w a xs):
 Calls prog 208 #[.slice a xs.length cap, .func (.func 174) #[] #[]] w fun e w'=>∃n:Int,e= .returned (.int .i64 n)/\decide (0<=n)= !oQ xs/\Ext w w':=by
 rcases hs with rfl|⟨b,o,rfl,hc⟩
 ·go_enter func208,ntmps208
  go_wp2;refine wp_loop_rounds 1 ?_;rw [rounds_succ];go_wp2;go_ret;exact⟨_,rfl,by simp [oQ],Ext.refl _⟩
 ·go_enter func208,ntmps208
  go_wp2
  go_loopg [5,8] xs.length (fun g _ i wr=>∃k:Nat,k<=xs.length/\i= .int .i64 k/\g=xs.length-k/\oQ (xs.take k)=true/\Ext w wr)
  case atStart=>exact⟨0,by omega,rfl,rfl,rfl,Ext.refl _⟩
  case round=>
   obtain⟨k,hk,rfl,rfl,hg,hx⟩:=hrel;have Hg:=ae hg;clear hg;by_cases hlt:k<xs.length
   ·obtain⟨c0,c1⟩:=hc k hlt
    have c0:=hx.cell c0;have c1:=hx.cell c1;clear hc;go_wp2_with (go_at_call 174;(with_reducible refine(adr _ _ _).mono ?_);rintro e w1 ⟨rfl,h1⟩;obtain⟨hc1,aA,hz1⟩:=bZ h1;(try simp at hz1);(try have j6:w.heap.size<w1.heap.size:=by omega);(try have gB:w.heap.size+1<w1.heap.size:=by omega);(try have kf:w.heap.size+2<w1.heap.size:=by omega);(try have kg:w.heap.size+3<w1.heap.size:=by omega))
    ·go_ret
     go_light;have h1:lV xs[k].1 xs[k].2=false:=by simp_all
     exact⟨_,rfl,by rw [adt hlt h1];simp,Xt⟩
    ·have h1:lV xs[k].1 xs[k].2=true:=by simp_all
     go_roundg (xs.length-(k+1))
     case measure=>omega
     case rel=>exact⟨k+1,by omega,by go_num,rfl,ads hlt Hg.out h1,Xt⟩
   ·go_wp2
    go_ret;have hk2:k=xs.length:=by omega
    refine⟨_,rfl,?_,hx⟩;have:=Hg.out;rw [List.take_of_length_le (by omega)] at this;rw [this];simp
theorem adv (a:aq) (cap:Nat) (xs:List (Int×Int)) (w:World) (hl:xs.length<=9223372036854775807) (hs:StepsIn w a xs):
 Calls prog 173 #[.slice a xs.length cap, .func (.func 174) #[] #[]] w fun e w'=>e= .returned (.bool (!oQ xs))/\Ext w w':=by
 go_enter func173,ntmps173;go_wp2_with (go_at_call 208;refine(adu _ _ _ _ hl hs).mono ?_;rintro e w1 ⟨n,rfl,hn,h1⟩;have Hn:=ae hn;clear hn);go_ret;exact⟨cX Hn.out,Xt⟩
theorem De (im:ah) (a:aq) (cap:Nat) (xs:List (Int×Int)) (w:World) (hl:xs.length<=9223372036854775807) (hs:StepsIn w a xs):
 Calls prog 121 #[.agg #[.string im, .slice a xs.length cap]] w fun e w'=>e= .returned (.bool (j5 im xs))/\Ext w w':=by
 go_enter func121,ntmps121;go_wp2_with (go_at_call 173;(with_reducible refine(adv _ _ _ _ hl (hs.ext Xt)).mono ?_);rintro e w1 ⟨rfl,h1⟩;obtain⟨hc1,aA,hz1⟩:=bZ h1;(try simp at hz1);(try have j6:w.heap.size<w1.heap.size:=by omega);(try have gB:w.heap.size+1<w1.heap.size:=by omega);(try have kf:w.heap.size+2<w1.heap.size:=by omega);(try have kg:w.heap.size+3<w1.heap.size:=by omega))
 all_goals go_ret
 all_goals refine⟨cX ?_,Xt⟩
 all_goals go_light
 all_goals simp only [j5]
 all_goals grind
end Go.Proofs.YtlcebdaghmdkeabGreatDoor
