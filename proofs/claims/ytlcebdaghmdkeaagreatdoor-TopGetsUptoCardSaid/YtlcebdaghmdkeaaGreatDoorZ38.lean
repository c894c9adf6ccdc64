import Derived.Test.YtlcebdaghmdkeaaGreatDoorZ36
set_option linter.all false
set_option maxRecDepth 100000
set_option maxHeartbeats 64000000
namespace Go.Proofs.YtlcebdaghmdkeaaGreatDoor
open Go.RowKit
def Sv.on (s:Sv):Sv:= {s with acts:=s.acts+1}
inductive Step (s:Sv) (a:Ac):Sv->Rp->Prop
 |full (h:300<=s.acts):Step s a s (.no 10)
 |no (e:Int) (h:s.acts<300) (he:e≠0) (h7:e=7↔(2<=a.k/\a.k<=4/\∃k,∃h:k<s.ay.length,s.ay[k].name=a.name/\a.ver≠0/\a.ver≠s.ay[k].ver)):Step s a s.on (.no e)
 |tick (h:s.acts<300) (hk:a.k=8) (h1:1<=a.n) (h2:a.n<=1099511627776-s.time):Step s a ⟨s.ay.map fun t=>t.ord (s.time+a.n) 0,s.time+a.n,s.last,s.acts+1⟩ (.no 0)
 |del (h:s.acts<300) (hk:a.k=6) (k:Nat) (hl:k<s.ay.length) (hn:s.ay[k].name=a.name):Step s a ⟨s.ay.take k++s.ay.drop (k+1),s.time,s.last,s.acts+1⟩ (.num s.ay[k].ver)
 |get (h:s.acts<300) (hk:a.k=9) (k:Nat) (hl:k<s.ay.length) (hn:s.ay[k].name=a.name) (hp:(gf s.ay[k].v).2=0):Step s a s.on ⟨0,s.ay[k].ver,⟨(gf s.ay[k].v).1.toArray⟩⟩
 |ord (h:s.acts<300) (hk:a.k=7) (k:Nat) (hl:k<s.ay.length) (hn:s.ay[k].name=a.name) (h0:(s.ay[k].next s.time a.ord).2=0):Step s a ⟨s.ay.set k (s.ay[k].ord s.time a.ord),s.time,s.last,s.acts+1⟩ (.num (s.ay[k].next s.time a.ord).1.ph)
 |keep (h:s.acts<300) (hk:2<=a.k/\a.k<=5) (k:Nat) (hl:k<s.ay.length) (hn:s.ay[k].name=a.name) (hv:a.k=5\/a.ver=0\/a.ver=s.ay[k].ver) (v:V) (ows:List Ow) (hc:cR s.ay[k].v s.ay[k].ows a=(v,ows,0)) (hs:cy v≠none):
   Step s a ⟨s.ay.set k (s.ay[k].kept v ows s.time s.last),s.time,if s.ay[k].turn v ows then s.last+1 else s.last,s.acts+1⟩ (.num (s.ay[k].kept v ows s.time s.last).ver)
 |zQ (h:s.acts<300) (hk:a.k=1\/a.k=5) (hh:fL s.ay a.name=false) (hn:fe a.name=true) (hl:s.ay.length<8) (v:V) (ows:List Ow) (hc:cR V.cj [] a=(v,ows,0)) (hs:cy v≠none):
   Step s a ⟨s.ay.take (eO s.ay a.name)++(nR a.name v).kept v ows s.time s.last::s.ay.drop (eO s.ay a.name),s.time,s.last+1,s.acts+1⟩ (.num (s.last+1))
theorem VF {l:List Th} {name:ah} (h:fL l name=true):∃hl:eO l name<l.length,l[eO l name].name=name:=by
 have h1:eO l name<l.length:=by have:=tM h;rw [List.length_map] at this;exact this
 exact⟨h1,by have:=Au h;rw [List.getElem_map] at this;exact this⟩
theorem N4 {l:List Th} (hr:cn (l.map Th.name)) {k:Nat} (hk:k<l.length):fL l l[k].name=true/\eO l l[k].name=k:=
 ⟨Fv hr (List.mem_map_of_mem (List.getElem_mem hk)),KG hr (by simpa using hk) (by simp)⟩
theorem Od {l:List Th} {name:ah} (hr:cn (l.map Th.name)) (h:fL l name=false):∀t∈l,t.name≠name:=fun t ht e=>
 Ga hr h (e▸List.mem_map_of_mem ht)
theorem Wb {l:List Th} (hr:cn (l.map Th.name)) {i j:Nat} (hi:i<l.length) (hj:j<l.length) (h:l[i].name=l[j].name):i=j:=by
 have h1:=(N4 hr hi).2;rw [h,(N4 hr hj).2] at h1;exact h1.symm
theorem af7 (s:Bytes):(dX s).2=0\/ (dX s).2=1\/ (dX s).2=2:=by
 unfold dX
 split
 ·exact .inr (.inr rfl)
 ·split
  ·exact .inl rfl
  ·exact .inr (.inl rfl)
theorem af8 (x:V):(gf x).2=0\/ (gf x).2=1\/ (gf x).2=2:=by
 unfold gf
 split
 ·exact .inr (.inl rfl)
 ·split
  ·exact .inr (.inr rfl)
  ·exact .inl rfl
theorem af9 (v:V):(jW v).2=0\/ (jW v).2=1\/ (jW v).2=2:=by
 unfold jW
 split
 ·exact .inr (.inl rfl)
 ·split
  ·exact .inr (.inr rfl)
  ·split
   ·exact .inr (.inl rfl)
   ·exact .inl rfl
theorem aga (v p:V):(mV v p).2≠7:=by
 unfold mV
 split
 ·simp
 ·split<;>simp
theorem agb {im:ah} {xs:List (Int×Int)} {s:St} {now o:Int}:(eI im xs s now o).2≠7:=by
 unfold eI
 repeat' split
 all_goals simp
theorem agc (v:V) (l:List Ow) (who:ah) (want:V) (f:Bool):(jM v l who want f).2.2.2≠7:=by
 unfold jM
 repeat' split
 all_goals simp
theorem Wc {F:ma} (hF:∀x a,(F x a).2≠7):∀(l:List ah) (x:V),(bW F l x).2≠7
 | [],x=>by simp [bW]
 |a::r,x=>by
  rw [bW]
  split
  ·exact hF _ _
  ·split
   ·simp
   ·split
    ·simp
    ·rename_i y hy
     split
     ·simp
     ·exact Wc hF r y
theorem agd (y x:V) (a:ah):(jn y x a).2≠7:=by
 unfold jn
 repeat' split
 all_goals simp
theorem age (x:V) (a:ah):(pN x a).2≠7:=by
 unfold pN
 repeat' split
 all_goals simp
theorem agf (y x:V) (a:ah):(ia y x a).2≠7:=by
 unfold ia
 repeat' split
 all_goals simp
theorem Oe {F:ma} (hF:∀x a,(F x a).2≠7) (x:V) (p:ah):(gH x p F).2≠7:=by
 unfold gH
 repeat' split
 all_goals first|exact Wc hF _ _|simp
theorem agh (x:V) (p:ah):(cH x p).2≠7:=by
 unfold cH
 repeat' split
 all_goals simp
theorem Wd (x:V) (p:ah) (y:V):(eQ x p y).2≠7:=by
 unfold eQ
 repeat' split
 all_goals first|exact Oe (agd y) _ _|simp
theorem agi (x:V) (p:ah) (y:V):(kf x p y).2≠7:=by
 unfold kf
 repeat' split
 all_goals first|exact Oe (agf y) _ _|simp
theorem Wf (x:V) (p:ah):(kg x p).2≠7:=Oe age _ _
theorem agj (x:V) (f p:ah) (y:V):(oo x f p y).2≠7:=by
 unfold oo
 repeat' split
 all_goals first|exact Wf _ _|exact Wd _ _ _|simp
theorem agk (x:V) (o:bM):(bO x o).2≠7:=by
 unfold bO
 repeat' split
 all_goals first|exact Wf _ _|exact Wd _ _ _|exact agi _ _ _|exact agh _ _|exact agj _ _ _ _|simp
theorem Wh:∀(l:List bM) (x:V),(eX l x).2≠7
 | [],x=>by simp [eX]
 |o::r,x=>by
  rw [eX]
  split
  ·exact agk _ _
  ·exact Wh r _
theorem agl (x:V) (l:List bM):(kR x l).2≠7:=by
 unfold kR
 repeat' split
 all_goals first|exact Wh _ _|simp
theorem agm (v b:V) (k:Int):(mJ v b k).2≠7:=by
 unfold mJ
 repeat' split
 ·exact aga _ _
 ·exact agl _ _
 ·have:=af9 b
  simp only;omega
 ·simp
theorem Wi (v:V) (ows:List Ow) (a:Ac):(cR v ows a).2.2≠7:=by
 unfold cR;have h:=af7 a.body.data.toList
 repeat' split
 ·simp only
  omega
 ·exact agc _ _ _ _ _
 ·exact agm _ _ _
theorem zK {s:Sv} {a:Ac} (h:¬(2<=a.k/\a.k<=4)) {e:Int} (he:e≠7):e=7↔(2<=a.k/\a.k<=4/\∃k,∃h:k<s.ay.length,s.ay[k].name=a.name/\a.ver≠0/\a.ver≠s.ay[k].ver):=
 ⟨fun q=>absurd q he,fun q=>absurd ⟨q.1,q.2.1⟩ h⟩
theorem IZ {s:Sv} {a:Ac} (hr:cn (s.ay.map Th.name)) (h:fL s.ay a.name=false) {e:Int} (he:e≠7):e=7↔(2<=a.k/\a.k<=4/\∃k,∃h:k<s.ay.length,s.ay[k].name=a.name/\a.ver≠0/\a.ver≠s.ay[k].ver):=
 ⟨fun q=>absurd q he,fun⟨_,_,k,hk,hn,_⟩=>absurd hn (Od hr h _ (List.getElem_mem hk))⟩
theorem agn {s:Sv} {a:Ac} (hr:cn (s.ay.map Th.name)) {k:Nat} (hk:k<s.ay.length) (hn:s.ay[k].name=a.name) (hv:a.ver=0\/a.ver=s.ay[k].ver) {e:Int} (he:e≠7):e=7↔(2<=a.k/\a.k<=4/\∃k,∃h:k<s.ay.length,s.ay[k].name=a.name/\a.ver≠0/\a.ver≠s.ay[k].ver):=
 ⟨fun q=>absurd q he,fun⟨_,_,j,hj,hm,h0,h1⟩=>by
  obtain rfl:j=k:=Wb hr hj hk (by rw [hm,hn]);rcases hv with h|h
  ·exact absurd h h0
  ·exact absurd h h1⟩
theorem af0 (s:Sv) (a:Ac) (hr:cn (s.ay.map Th.name)) (eG:∀t∈s.ay,fe t.name=true):Step s a (bz s a).1 (bz s a).2:=by
 unfold bz;by_cases hf:300<=s.acts
 ·rw [if_pos hf];exact .full hf
 rw [if_neg hf];have h:s.acts<300:=by omega
 unfold uy;by_cases h1:a.k<1\/9<a.k
 ·rw [if_pos h1];exact .no 9 h (by decide) (zK (by omega) (by decide))
 rw [if_neg h1];by_cases h8:a.k=8
 ·rw [if_pos h8]
  unfold nO;dsimp only;by_cases ht:a.n<1\/1099511627776-s.time<a.n
  ·rw [if_pos ht];exact .no 8 h (by decide) (zK (by omega) (by decide))
  ·rw [if_neg ht];exact .tick h h8 (by omega) (by omega)
 rw [if_neg h8];by_cases hn:fe a.name=false
 ·rw [if_pos hn]
  refine .no 1 h (by decide) ⟨fun q=>absurd q (by decide),fun⟨_,_,k,hk,hm,_⟩=> ?_⟩;have:=eG _ (List.getElem_mem hk);rw [hm,hn] at this
  cases this
 rw [if_neg hn];have hn:fe a.name=true:=by simpa using hn
 dsimp only;by_cases hc:a.k=1\/ (a.k=5/\fL s.ay a.name=false)
 ·rw [if_pos hc]
  unfold qW;dsimp only;by_cases hh:fL s.ay a.name=true
  ·rw [if_pos hh]
   have:a.k=1:=by rcases hc with hc|hc;exact hc;rw [hh] at hc;exact absurd hc.2 (by decide)
   exact .no 6 h (by decide) (zK (by omega) (by decide))
  rw [if_neg hh];have hh:fL s.ay a.name=false:=by simpa using hh
  by_cases hl:8<=s.ay.length
  ·rw [if_pos hl];exact .no 10 h (by decide) (IZ hr hh (by decide))
  rw [if_neg hl];by_cases he:(cR V.cj [] a).2.2≠0
  ·rw [if_pos he];exact .no _ h he (IZ hr hh (Wi _ _ _))
  rw [if_neg he];by_cases hs:cy (cR V.cj [] a).1=none
  ·rw [if_pos hs];exact .no 1 h (by decide) (IZ hr hh (by decide))
  rw [if_neg hs];unfold o7;rw [if_neg hs];have hlen:eO s.ay a.name<=s.ay.length:=Ns _ _
  have key:=Step.zQ (s:=s) h (by rcases hc with hc|hc;exact .inl hc;exact .inr hc.1) hh hn (by omega) (cR V.cj [] a).1 (cR V.cj [] a).2.1 (by
   have:(cR V.cj [] a).2.2=0:=Classical.byContradiction he
   rw [<-this]) hs
  have ht:(nR a.name (cR V.cj [] a).1).turn (cR V.cj [] a).1 (cR V.cj [] a).2.1=true:=rfl;have IW:((nR a.name (cR V.cj [] a).1).kept (cR V.cj [] a).1 (cR V.cj [] a).2.1 s.time s.last).ver=s.last+1:=by unfold Th.kept;simp only [ht,if_true]
  have agp:(s.ay.take (eO s.ay a.name)++nR a.name (cR V.cj [] a).1::s.ay.drop (eO s.ay a.name)).set (eO s.ay a.name) ((nR a.name (cR V.cj [] a).1).kept (cR V.cj [] a).1 (cR V.cj [] a).2.1 s.time s.last)=
   s.ay.take (eO s.ay a.name)++(nR a.name (cR V.cj [] a).1).kept (cR V.cj [] a).1 (cR V.cj [] a).2.1 s.time s.last::s.ay.drop (eO s.ay a.name):=by
   rw [List.set_append_right _ _ (by rw [List.length_take];omega),List.length_take,Nat.min_eq_left hlen,Nat.sub_self,List.set_cons_zero]
  dsimp only at IW⊢;rw [agp,IW,ht,if_pos rfl];exact key
 rw [if_neg hc];by_cases hh:fL s.ay a.name=false
 ·rw [if_pos hh];exact .no 3 h (by decide) (IZ hr hh (by decide))
 rw [if_neg hh];have hh:fL s.ay a.name=true:=by simpa using hh
 obtain⟨hl,hnn⟩:=VF hh;rw [List.getElem?_eq_getElem hl];generalize eO s.ay a.name=k at hl hnn⊢;dsimp only;have h15:a.k≠1:=fun q=>hc (.inl q);unfold qX;by_cases h6:a.k=6
 ·rw [if_pos h6];exact .del h h6 k hl hnn
 rw [if_neg h6];by_cases h9:a.k=9
 ·rw [if_pos h9]
  unfold uz;by_cases hp:(gf s.ay[k].v).2≠0
  ·rw [if_pos hp];exact .no _ h hp (zK (by omega) (by have:=af8 s.ay[k].v;omega))
  ·rw [if_neg hp];exact .get h h9 k hl hnn (Classical.byContradiction hp)
 rw [if_neg h9];by_cases h7:a.k=7
 ·rw [if_pos h7]
  unfold xC;dsimp only;by_cases hp:(s.ay[k].next s.time a.ord).2≠0
  ·rw [if_pos hp];exact .no _ h hp (zK (by omega) agb)
  ·rw [if_neg hp];exact .ord h h7 k hl hnn (Classical.byContradiction hp)
 rw [if_neg h7];by_cases hv:a.k≠5/\a.ver≠0/\a.ver≠s.ay[k].ver
 ·rw [if_pos hv];exact .no 7 h (by decide) ⟨fun _=>⟨by omega,by omega,k,hl,hnn,hv.2.1,hv.2.2⟩,fun _=>rfl⟩
 rw [if_neg hv];have hv:a.k=5\/a.ver=0\/a.ver=s.ay[k].ver:=by omega
 have hno:∀ {e:Int},e≠7-> (e=7↔(2<=a.k/\a.k<=4/\∃k,∃h:k<s.ay.length,s.ay[k].name=a.name/\a.ver≠0/\a.ver≠s.ay[k].ver)):=fun {e} he=>by
  by_cases h5:a.k=5
  ·exact zK (by omega) he
  ·exact agn hr hl hnn (by omega) he
 by_cases he:(cR s.ay[k].v s.ay[k].ows a).2.2≠0
 ·rw [if_pos he];exact .no _ h he (hno (Wi _ _ _))
 rw [if_neg he];unfold o7;by_cases hs:cy (cR s.ay[k].v s.ay[k].ows a).1=none
 ·rw [if_pos hs];exact .no 1 h (by decide) (hno (by decide))
 rw [if_neg hs]
 exact .keep h (by omega) k hl hnn hv _ _ (by
  have:(cR s.ay[k].v s.ay[k].ows a).2.2=0:=Classical.byContradiction he
  rw [<-this]) hs
structure nS (v:V) (l:List Ow):Prop where
 good:iK l=true
 there:∀o∈l,∀p∈o.paths,bI v p≠none
 small:∀o∈l,fw o.paths<=240120
theorem nS.nil (v:V):nS v []:=⟨by decide,(fun o h=>(by cases h)),(fun o h=>(by cases h))⟩
theorem afV {s:ah} (h:fe s=true):1<=s.size/\s.size<=12:=by
 unfold fe at h;simp only [Bool.and_eq_true,decide_eq_true_eq] at h;exact⟨h.1.2,h.2⟩
theorem VI {B:Nat}:∀(l:List Ow),(∀o∈l,o.size<=B)->cN l<=l.length*B
 | [],_=>by simp [cN]
 |o::r,h=>by have h1:=VI r (fun q hq=>h q (by simp [hq]));have h2:=h o (by simp);unfold cN at h1⊢;rw [List.map_cons,List.sum_cons,List.length_cons,Nat.add_mul];omega
theorem nS.size {v:V} {l:List Ow} (h:nS v l):cN l<=1800000:=by
 obtain⟨h1,-,h3⟩:=(CD l).1 h.good
 have:=VI (B:=250000) l (fun o ho=>by
  have h4:=h.small o ho;have h5:=afV (h1 o ho).1;unfold Ow.size
  omega)
 have:l.length*250000<=6*250000:=Nat.mul_le_mul_right _ h3;omega
theorem nS.keep {v w:V} {l:List Ow} (h:nS v l):nS w (kU w l):=by
 have hm:∀o∈kU w l,∃o'∈l,o'.name=o.name/\o.paths≠ []/\o.paths=o'.paths.filter (fun p=>(bI w p).isSome):=by
  intro o ho;obtain⟨o',h1,h2⟩:=List.mem_filterMap.1 ho;unfold jt at h2
  split at h2
  ·cases h2
  ·rename_i hne
   simp only [Option.some.injEq] at h2;subst h2;exact⟨o',h1,rfl,hne,rfl⟩
 obtain⟨g1,g2,g3⟩:=(CD l).1 h.good;refine⟨(CD _).2 ⟨fun o ho=> ?_,?_,Nat.le_trans (List.length_filterMap_le _ _) g3⟩,fun o ho p hp=> ?_,fun o ho=> ?_⟩
 ·obtain⟨o',h1,h2,h3,h4⟩:=hm o ho
  obtain⟨k1,k2,k3⟩:=g1 o' h1;obtain⟨k4,k5⟩:=(CC _).1 k3;refine⟨h2▸k1,h3,(CC _).2 ⟨fun p hp=> ?_,?_⟩⟩
  ·rw [h4] at hp;exact k4 p (List.mem_filter.1 hp).1
  ·rw [h4];exact k5.sublist List.filter_sublist
 ·refine Pz ?_ g2
  unfold kU;clear hm g1 g2 g3 h
  induction l with
  |nil=>simp
  |cons o r ih=>
   rw [List.filterMap_cons];unfold jt at ih⊢;by_cases hk:o.paths.filter (fun p=>(bI w p).isSome)= []
   ·simp only [hk,if_true];exact .cons _ ih
   ·simp only [hk,if_false,List.map_cons];exact ih.cons₂ _
 ·obtain⟨o',h1,h2,h3,h4⟩:=hm o ho
  rw [h4] at hp;have:=(List.mem_filter.1 hp).2;intro e;rw [e] at this
  cases this
 ·obtain⟨o',h1,h2,h3,h4⟩:=hm o ho
  rw [h4];exact Nat.le_trans (FK _ _) (h.small o' h1)
theorem afW {v:V} {l:List Ow} {who:ah} {want w:V} {f:Bool} {m:List Ow} {c:List (ah×ah)} (h:jM v l who want f=(w,m,c,0)) {o:Ow} (ho:o∈ft v want who l) {p:ah} (hp:p∈o.paths) {x:V} (hx:bI v p=some x):bI w p=some x:=by
 obtain⟨hb,hc,rfl,rfl,hwf,-,-⟩:=JX h;obtain⟨yA,Ay,-,-,hgl,-⟩:=FH hb;obtain⟨o',ho',wH,nu,hpw,-⟩:=wG ho;obtain⟨hpo,hw⟩:=hpw p hp;obtain⟨r,hr,afX⟩:=Ki hgl ho' hpo;have VJ:∀z:V,bI z p=bn r z:=fun z=>by unfold bI bQ;rw [hr];rfl
 rw [VJ] at hx⊢;unfold fg;obtain⟨hds,-⟩:=CJ want.leaves (ft v want who l) (mq who l) (gV yA);refine JO want.leaves hds (fun _ h=>h) (fun p' hp'=> ?_) (R3 _ _ _ (gV yA) (fun p' hp' iq=> ?_) hx)
 ·obtain⟨-,-,s,-,hs,-⟩:=rJ hp'
  have hnd':bQ p'=s:=by unfold bQ;rw [hs];rfl
  by_cases he:p'=p
  ·refine .inr fun z hz CB=> ?_
   subst he;rw [hr] at hs
   cases hs
   obtain⟨now,N5,afY⟩:=(Ll want.leaves hw).2 hp';rw [VJ] at N5;rw [hx] at N5
   cases N5
   unfold jh;rw [hnd',Fw r afX hz CB afY];exact CB
  ·exact .inl (by rw [hnd'];exact aaX hw hp' hs hr he)
 ·obtain⟨o2,ho2,afZ⟩:=PL hp'
  obtain⟨s,hs,-⟩:=Ki hgl ho2 afZ;have hnd':bQ p'=s:=by unfold bQ;rw [hs];rfl
  rw [hnd'];have EW:tO p' p=false:=by unfold qB at iq;have:=List.any_eq_false.1 iq o ho;simp only [Bool.not_eq_true] at this;have:=List.any_eq_false.1 this p hp;simpa using this
  unfold tO at EW;simp only [Bool.or_eq_false_iff,decide_eq_false_iff_not] at EW;exact RZ hs hr EW.1.1 EW.1.2 EW.2
theorem nS.apply {v:V} {l:List Ow} {who:ah} {want w:V} {f:Bool} {m:List Ow} {c:List (ah×ah)} (h:nS v l) (ha:jM v l who want f=(w,m,c,0)):nS w m:=by
 obtain⟨-,hg,hwf,FJ,-⟩:=X3 ha;have ha':=ha;obtain⟨hb,hc,rfl,rfl,-,-,-⟩:=JX ha;obtain⟨yA,Ay,qo,tN,hgl,hwho⟩:=FH hb;obtain⟨hds,-⟩:=CJ want.leaves (ft v want who l) (mq who l) (gV yA);refine⟨hg,fun o ho p hp=> ?_,fun o ho=> ?_⟩
 ·rcases FD ho with ho|⟨rfl,-⟩
  ·obtain⟨o',ho',-,-,hpw,-⟩:=wG ho
   have h1:=h.there o' ho' p (hpw p hp).1
   cases hx:bI v p with
   |none=>exact absurd hx h1
   |some x=>rw [afW ha' ho hp hx];simp
  ·obtain⟨y,hy,-⟩:=JQ (want:=want) want.leaves hp (fun _ h=>h) hds
   intro e;unfold fg at e;rw [hy] at e
   cases e
 ·rcases FD ho with ho|⟨rfl,-⟩
  ·obtain⟨o',ho',-,-,-,-,h6⟩:=wG ho
   rw [h6];exact Nat.le_trans (FK _ _) (h.small o' ho')
  ·have h3:=JY (B:=2000) want.leaves (fun p hp=>FL hp)
   have h4:=CL want;have h5:want.leaves.length*2001<=120*2001:=Nat.mul_le_mul_right _ h4;simp only;omega
theorem nS.VK {v w:V} {l m:List Ow} {a:Ac} (h:nS v l) (hc:cR v l a=(w,m,0)):nS w m:=by
 unfold cR at hc
 split at hc
 ·rename_i hne
  simp only [Prod.mk.injEq] at hc;exact absurd hc.2.2 hne
 ·split at hc
  ·simp only [Prod.mk.injEq] at hc
   exact h.apply (f:=a.force) (who:=a.who) (want:=(dX a.body.data.toList).1) (c:=(jM v l a.who (dX a.body.data.toList).1 a.force).2.2.1) (by rw [<-hc.1,<-hc.2.1,<-hc.2.2])
  ·simp only [Prod.mk.injEq] at hc
   obtain⟨rfl,rfl,-⟩:=hc;exact h.keep
structure xO (last:Int) (t:Th):Prop where
 name:fe t.name=true
 spec:cy t.v≠none
 st:gD t.st=true
 cm:t.st.cm=kC (cy t.v)
 ows:nS t.v t.ows
 gen:1<=t.gen/\t.gen<=t.ver/\t.ver<=last
theorem xO.mono {a b:Int} {t:Th} (h:xO a t) (hab:a<=b):xO b t:=⟨h.name,h.spec,h.st,h.cm,h.ows,h.gen.1,h.gen.2.1,Int.le_trans h.gen.2.2 hab⟩
theorem EX (im:ah) (xs:List (Int×Int)) (s:St) (now o:Int) (h:(eI im xs s now o).2=0):eI im xs s now o=((eI im xs s now o).1,0):=by rw [<-h]
theorem xO.ord {last:Int} {t:Th} (h:xO last t) (time o:Int):xO last (t.ord time o):=by
 unfold Th.ord
 split
 ·rename_i h0
  have h1:=EX _ _ _ _ _ h0;exact⟨h.name,h.spec,Ef h1,(N6 h1).2.1,h.ows,h.gen⟩
 ·exact h
theorem VL {last time:Int} {t:Th} {v:V} {ows:List Ow} (hn:fe t.name=true) (hst:gD t.st=true) (hg:0<=t.gen/\t.gen<=t.ver/\t.ver<=last) (h0:t.ver=0\/1<=t.gen) (hs:cy v≠none) (ho:nS v ows) (t0:0<=time) (t1:time<=1099511627776):
 xO (if t.turn v ows then last+1 else last) (t.kept v ows time last):=by
 obtain⟨hG,hf,h5⟩:=vS hs;have h1:=EX (kC (cy v)) (fK (cy v)) t.st time 0 (Iq hG hst t0 t1 (by decide) (by decide));refine⟨hn,hs,Ef h1,(N6 h1).2.1,ho,?_⟩;unfold Th.kept;dsimp only;have ht:t.other v=true->t.turn v ows=true:=fun e=>by unfold Th.turn;rw [e];rfl
 have hv:t.other v=false->t.ver≠0:=fun e=>by unfold Th.other at e;simp only [Bool.or_eq_false_iff,decide_eq_false_iff_not] at e;exact e.1
 cases h2:t.other v<;>cases h3:t.turn v ows
 ·have:=hv h2;simp;omega
 ·have:=hv h2;simp;omega
 ·rw [ht h2] at h3;cases h3
 ·simp;omega
structure Ok (s:Sv):Prop where
 len:s.ay.length<=8
 dO:cn (s.ay.map Th.name)
 ay:∀t∈s.ay,xO s.last t
 last:0<=s.last/\s.last<=s.acts
 acts:s.acts<=300
 time:0<=s.time/\s.time<=1099511627776
theorem Ok.new:Ok cQ:=⟨by simp [cQ],by simp [cQ],fun t h=>by simp [cQ] at h,by simp [cQ],by simp [cQ],by simp [cQ]⟩
theorem Ok.inv {s:Sv} (h:Ok s):Inv s:=by
 obtain⟨h1,h2,h3,h4,h5,h6⟩:=h;exact⟨h1,h2,fun t ht=>⟨qh (vS (h3 t ht).spec).2.1,(h3 t ht).ows.size,by have:=(h3 t ht).gen;omega,by have:=(h3 t ht).gen;omega⟩,by omega,h6,by omega⟩
theorem VM {l:List Th} {k:Nat} {t:Th} (hk:k<l.length) (h:t.name=l[k].name):(l.set k t).map Th.name=l.map Th.name:=by
 rw [List.map_set,h];refine List.ext_getElem (by simp) fun i h1 h2=> ?_;rw [List.getElem_set]
 split
 ·rename_i e;subst e;simp
 ·rfl
theorem IX (t:Th) (time o:Int):(t.ord time o).name=t.name:=by unfold Th.ord;split<;>rfl
theorem mem_set {l:List Th} {k:Nat} {t u:Th} (h:u∈l.set k t):u=t\/u∈l:=(List.mem_or_eq_of_mem_set h).symm
theorem Ok.step {s s':Sv} {a:Ac} {r:Rp} (h:Ok s) (hs:Step s a s' r):Ok s':=by
 obtain⟨h1,h2,h3,h4,h5,h6⟩:=h
 cases hs with
 |full h=>exact⟨h1,h2,h3,h4,h5,h6⟩
 |no e h he=>exact⟨h1,h2,h3,by simp only [Sv.on];omega,by simp only [Sv.on];omega,h6⟩
 |get h hk k hl hn hp=>exact⟨h1,h2,h3,by simp only [Sv.on];omega,by simp only [Sv.on];omega,h6⟩
 |tick h hk g1 g2=>
  refine⟨by simpa using h1,?_,fun t ht=> ?_,by simp only;omega,by simp only;omega,by simp only;omega⟩
  ·rw [List.map_map,show (Th.name∘fun t=>t.ord (s.time+a.n) 0)=Th.name from funext fun t=>IX t _ _]
   exact h2
  ·obtain⟨u,hu,rfl⟩:=List.mem_map.1 ht
   exact(h3 u hu).ord _ _
 |del h hk k hl hn=>
  refine⟨by simp only [List.length_append,List.length_take,List.length_drop];omega,?_,fun t ht=> ?_,by simp only;omega,by simp only;omega,h6⟩
  ·have:=Qo h2 k
   rwa [<-List.map_take,<-List.map_drop,<-List.map_append] at this
  ·rcases List.mem_append.1 ht with ht|ht
   ·exact h3 t (List.mem_of_mem_take ht)
   ·exact h3 t (List.mem_of_mem_drop ht)
 |ord h hk k hl hn h0=>
  refine⟨by simpa using h1,?_,fun t ht=> ?_,by simp only;omega,by simp only;omega,h6⟩
  ·show cn ((s.ay.set k _).map Th.name)
   rw [VM hl (IX _ _ _)];exact h2
  ·rcases mem_set ht with rfl|ht
   ·exact(h3 _ (List.getElem_mem hl)).ord _ _
   ·exact h3 t ht
 |keep h hk k hl hn hv v ows hc hs=>
  have hT:=h3 _ (List.getElem_mem hl);have hb:s.last<= (if s.ay[k].turn v ows then s.last+1 else s.last):=by split<;>omega
  refine⟨by simpa using h1,?_,fun t ht=> ?_,?_,by simp only;omega,h6⟩
  ·show cn ((s.ay.set k _).map Th.name)
   rw [VM (t:=s.ay[k].kept v ows s.time s.last) hl rfl];exact h2
  ·rcases mem_set ht with rfl|ht
   ·exact VL hT.name hT.st (by have:=hT.gen;omega) (.inr hT.gen.1) hs (hT.ows.VK hc) h6.1 h6.2
   ·exact(h3 t ht).mono hb
  ·simp only
   split<;>omega
 |zQ h hk hh hn hl v ows hc hs=>
  obtain⟨hG,hf,Ia⟩:=vS hs;obtain⟨hst,-⟩:=VN hG;have hlen:=Ns s.ay a.name;refine⟨by simp only [List.length_append,List.length_take,List.length_cons,List.length_drop];omega,?_,fun t ht=> ?_,by simp only;omega,by simp only;omega,h6⟩
  ·have:=CI h2 hh
   show cn (List.map Th.name _);rw [List.map_append,List.map_cons,List.map_take,List.map_drop];exact this
  ·have hkk:=VL (t:=nR a.name v) (last:=s.last) (ows:=ows) hn hst ⟨Int.le_refl 0,Int.le_refl 0,h4.1⟩ (.inl rfl) hs ((nS.nil V.cj).VK hc) h6.1 h6.2
   rw [show (nR a.name v).turn v ows=true from rfl,if_pos rfl] at hkk;rcases List.mem_append.1 ht with ht|ht
   ·exact(h3 t (List.mem_of_mem_take ht)).mono (by simp only;omega)
   ·rcases List.mem_cons.1 ht with rfl|ht
    ·exact hkk
    ·exact(h3 t (List.mem_of_mem_drop ht)).mono (by simp only;omega)
theorem Ok.so {s:Sv} (h:Ok s) (a:Ac):Step s a (bz s a).1 (bz s a).2:=af0 s a h.dO fun t ht=>(h.ay t ht).name
theorem Ok.next {s:Sv} (h:Ok s) (a:Ac):Ok (bz s a).1:=h.step (h.so a)
theorem Ok.BJ {s:Sv} (h:Ok s):∀(l:List Ac),Ok (fq s l):=fun l=>by
 unfold fq
 induction l generalizing s with
 |nil=>exact h
 |cons a r ih=>exact ih (h.next a)
theorem VO {s s':Sv} {a:Ac} {r:Rp} (hs:Step s a s' r) (h:s.acts<300):s'.acts=s.acts+1:=by
 cases hs<;>first|rfl|omega
theorem EM {l:List Ac} (hl:l.length<=100):(fq cQ l).acts=l.length:=by
 have:∀(l:List Ac) (s:Sv),Ok s->s.acts+l.length<=300-> (fq s l).acts=s.acts+l.length:=by
  intro l
  induction l with
  |nil=>intro s _ _;simp [fq]
  |cons a r ih=>
   intro s hok hle;simp only [List.length_cons] at hle;have h1:=VO (hok.so a) (by omega);have h2:=ih _ (hok.next a) (by omega);unfold fq at h2⊢;rw [List.foldl_cons,h2,h1,List.length_cons];omega
 have h:=this l cQ .new (by simp only [cQ];omega);rw [h];simp [cQ]
end Go.Proofs.YtlcebdaghmdkeaaGreatDoor
