import Derived.Deep.MidRow
import Derived.Lib.AppendIntMem
import Derived.Lib.SmallJoins
import Derived.Test.YtlcebdaghmdkeaaGreatDoorZ2
import Derived.Test.YtlcebdaghmdkeaaGreatDoorZ4
import Derived.Test.YtlcebdaghmdkeaaGreatDoorZ5
import Derived.Test.YtlcebdaghmdkeaaGreatDoorZ6
set_option linter.all false
set_option maxRecDepth 100000
set_option maxHeartbeats 64000000
namespace Go.Proofs.YtlcebdaghmdkeaaGreatDoor
open Go.Proofs.Tryz
open Go.RowKit
theorem Gx (a:aq) (n c:Nat) (news:List Value) (w:World) (hok:aO a n c) (hbig:n<=1073741824) (hl:news.length=n*1) (hsrc:n=0\/∃ad,a=some ad/\∀j u,news[j]? =some u->w.cell? (ad.add j)=some u) (h1:∀u∈news,u.oneCell'=true):
 Calls prog 26 #[.slice a n c] w fun e w'=>∃a' c',e= .returned (.slice a' n c')/\aO a' n c'/\w'.ownsRow w.heap.size 9 1 (.slice a' n c') n news/\Ext w w':=by
 obtain⟨i0,hi,hz0,hz1,hz2⟩:=info_parts Tryz.wU;have Rx:∀(w:World) (a:aq) (n c n' c':Nat),(binOp .eql 38 (.slice a n c) (.slice none n' c')).run prog w= .ok (.bool a.isNone) w:=fun w a n c n' c'=>Lib.run_eql_slice_nil w _ _ a n c n' c' underlying38
 cases a with
 |none=>
  obtain rfl:=hok.2.2 rfl;obtain rfl:n=0:=by have:=hok.1;omega
  obtain rfl:news= []:=List.eq_nil_of_length_eq_zero (by simpa using hl);clear hok hl hsrc h1;go_enter func26,ntmps26;go_wp2_with fail;go_ret;exact⟨none,0,rfl,aO.nil,World.ownsRow_nil _ _ _ _,Ext.refl _⟩
 |some ad=>
  have hc:∀j u,news[j]? =some u->w.cell? (ad.add j)=some u:=by
   rcases hsrc with h0|⟨Ry,he,h⟩
   ·subst h0
    obtain rfl:news= []:=List.eq_nil_of_length_eq_zero (by simpa using hl);intro j u hj;simp at hj
   ·simp only [Option.some.injEq] at he;subst he;exact h
  have Hc:=ae hc;have Hl:=ae hl;clear hc hsrc hl;have h63:n<=maxLen:=by unfold maxLen;omega
  go_enter func26,ntmps26;go_wp2_with (at_builtin;refine wpList_append_own _ rfl _ _ 38 rfl w.heap.size 9 i0 _ 1 16 underlying38 hi hz0 hz1 hz2 rfl (by decide) _ _ _ rfl (World.ownsRow_made w #[] 0 (Nat.le_refl _) (Nat.zero_le _) (by simp)) ad n c news rfl ?qc1 ?qc2 ?qc3 ?qc4 ?qc5 ?qc6 ?_)
  case qc1=>exact Hl.out
  case qc2=>
   intro j u hj;exact Lib.cell?_alloc_some _ (Hc.out j u hj)
  case qc3=>exact h1
  case qc4=>rw [Nat.zero_add];exact h63
  case qc5=>rw [Nat.zero_add];omega
  case qc6=>simp
  intro v' w1 hown hgrow hnil;obtain⟨a',c',rfl,nE⟩:=gU hown;go_wp2;go_ret;refine⟨a',c',by simp,by simpa using nE,by simpa using hown,?_⟩;exact((Below.refl _ w).alloc (Nat.le_refl _) _).grown hgrow (by simp) (by intro k hk;simp [Value.ownBlock] at hk;omega)
theorem zX (a:aq) (n c:Nat) (news:List Value) (w:World) (hok:aO a n c) (hbig:n<=1073741824) (hl:news.length=n*5) (hsrc:n=0\/∃ad,a=some ad/\∀j u,news[j]? =some u->w.cell? (ad.add j)=some u) (h1:∀u∈news,u.oneCell'=true):
 Calls prog 41 #[.slice a n c] w fun e w'=>∃a' c',e= .returned (.slice a' n c')/\aO a' n c'/\w'.ownsRow w.heap.size 41 5 (.slice a' n c') n news/\Ext w w':=by
 obtain⟨i0,hi,hz0,hz1,hz2⟩:=info_parts Tryz.yS;have Rx:∀(w:World) (a:aq) (n c n' c':Nat),(binOp .eql 39 (.slice a n c) (.slice none n' c')).run prog w= .ok (.bool a.isNone) w:=fun w a n c n' c'=>Lib.run_eql_slice_nil w _ _ a n c n' c' underlying39
 cases a with
 |none=>
  obtain rfl:=hok.2.2 rfl;obtain rfl:n=0:=by have:=hok.1;omega
  obtain rfl:news= []:=List.eq_nil_of_length_eq_zero (by simpa using hl);clear hok hl hsrc h1;go_enter func41,ntmps41;go_wp2_with fail;go_ret;exact⟨none,0,rfl,aO.nil,World.ownsRow_nil _ _ _ _,Ext.refl _⟩
 |some ad=>
  have hc:∀j u,news[j]? =some u->w.cell? (ad.add j)=some u:=by
   rcases hsrc with h0|⟨Ry,he,h⟩
   ·subst h0
    obtain rfl:news= []:=List.eq_nil_of_length_eq_zero (by simpa using hl);intro j u hj;simp at hj
   ·simp only [Option.some.injEq] at he;subst he;exact h
  have Hc:=ae hc;have Hl:=ae hl;clear hc hsrc hl;have h63:n<=maxLen:=by unfold maxLen;omega
  go_enter func41,ntmps41;go_wp2_with (at_builtin;refine wpList_append_own _ rfl _ _ 39 rfl w.heap.size 41 i0 _ 5 80 underlying39 hi hz0 hz1 hz2 rfl (by decide) _ _ _ rfl (World.ownsRow_made w #[] 0 (Nat.le_refl _) (Nat.zero_le _) (by simp)) ad n c news rfl ?qc1 ?qc2 ?qc3 ?qc4 ?qc5 ?qc6 ?_)
  case qc1=>exact Hl.out
  case qc2=>
   intro j u hj;exact Lib.cell?_alloc_some _ (Hc.out j u hj)
  case qc3=>exact h1
  case qc4=>rw [Nat.zero_add];exact h63
  case qc5=>rw [Nat.zero_add];omega
  case qc6=>simp
  intro v' w1 hown hgrow hnil;obtain⟨a',c',rfl,nE⟩:=gU hown;go_wp2;go_ret;refine⟨a',c',by simp,by simpa using nE,by simpa using hown,?_⟩;exact((Below.refl _ w).alloc (Nat.le_refl _) _).grown hgrow (by simp) (by intro k hk;simp [Value.ownBlock] at hk;omega)
abbrev V.five (x:V) (ka:aq) (kc:Nat) (la:aq) (lc:Nat):List Value:= [.int .i64 x.k, .int .i64 x.n, .string x.s, .slice ka x.keys.length kc, .slice la x.l.length lc]
theorem V.mR (x:V) (ka:aq) (kc:Nat) (la:aq) (lc:Nat):∀u∈x.five ka kc la lc,u.oneCell'=true:=by
 intro u hu;simp only [V.five,List.mem_cons,List.not_mem_nil,or_false] at hu;rcases hu with rfl|rfl|rfl|rfl|rfl<;>rfl
theorem cV.cons {w:World} {T:aA} {x:V} {r:List V} {t:List Value} {ka:aq} {kc:Nat} {la:aq} {lc:Nat} (hx:x.In w T ka kc la lc) (hr:cV w T r t):cV w T (x::r) (x.five ka kc la lc++t):=
 ⟨ka,kc,la,lc,t,rfl,hx,hr⟩
theorem cV.Gy {w:World} {T:aA} {x:V} {r:List V} {xs:List Value} (h:cV w T (x::r) xs):∃ka kc la lc t,xs=x.five ka kc la lc++t/\x.In w T ka kc la lc/\cV w T r t:=by
 obtain⟨ka,kc,la,lc,t,rfl,h1,h2⟩:=h;exact⟨ka,kc,la,lc,t,rfl,h1,h2⟩
theorem cV.app {w:World} {T:aA} {a b:List V} {x y:List Value} (h1:cV w T a x) (h2:cV w T b y):cV w T (a++b) (x++y):=by
 induction a generalizing x with
 |nil=>obtain rfl:x= []:=h1;exact h2
 |cons v r ih=>
  obtain⟨ka,kc,la,lc,t,rfl,h3,h4⟩:=h1.Gy;rw [List.cons_append,List.append_assoc];exact .cons h3 (ih h4)
theorem cV.nil {w:World} {T:aA}:cV w T [] []:=rfl
theorem cV.cut {w:World} {T:aA} {l:List V} {xs:List Value} (h:cV w T l xs) (k:Nat):cV w T (l.take k) (xs.take (k*5))/\cV w T (l.drop k) (xs.drop (k*5)):=by
 induction k generalizing l xs with
 |zero=>exact⟨by rw [Nat.zero_mul,List.take_zero,List.take_zero];exact .nil,by simpa using h⟩
 |succ k ih=>
  cases l with
  |nil=>obtain rfl:xs= []:=h;exact⟨by rw [List.take_nil,List.take_nil];exact .nil,by rw [List.drop_nil,List.drop_nil];exact .nil⟩
  |cons v r=>
   obtain⟨ka,kc,la,lc,t,rfl,h3,h4⟩:=h.Gy;obtain⟨h5,h6⟩:=ih h4;have e:(k+1)*5=k*5+1+1+1+1+1:=by omega
   rw [e];refine⟨?_,?_⟩
   ·simp only [List.take_succ_cons,V.five,List.cons_append,List.nil_append]
    exact⟨ka,kc,la,lc,_,rfl,h3,h5⟩
   ·simpa using h6
theorem cV.one {w:World} {T:aA} {l:List V} {xs:List Value} (h:cV w T l xs):∀u∈xs,u.oneCell'=true:=by
 induction l generalizing xs with
 |nil=>obtain rfl:xs= []:=h;intro u hu;cases hu
 |cons v r ih=>
  obtain⟨ka,kc,la,lc,t,rfl,h3,h4⟩:=h.Gy;intro u hu;rcases List.mem_append.1 hu with hu|hu
  ·exact v.mR _ _ _ _ u hu
  ·exact ih h4 u hu
theorem cV.ins {w:World} {T:aA} {l:List V} {xs:List Value} (h:cV w T l xs) (k:Nat) {x:V} {ka:aq} {kc:Nat} {la:aq} {lc:Nat} (hx:x.In w T ka kc la lc):
 cV w T (l.take k++x::l.drop k) (xs.take (k*5)++x.five ka kc la lc++xs.drop (k*5)):=by
 rw [List.append_assoc];exact(h.cut k).1.app (.cons hx (h.cut k).2)
theorem cV.del {w:World} {T:aA} {l:List V} {xs:List Value} (h:cV w T l xs) (k:Nat):cV w T (l.take k++l.drop (k+1)) (xs.take (k*5)++xs.drop ((k+1)*5)):=(h.cut k).1.app (h.cut (k+1)).2
theorem cV.mono {w:World} {S T:aA} {l:List V} {xs:List Value} (h:cV w S l xs) (hT:∀b,S b->b<w.heap.size->T b):cV w T l xs:=h.keep (fun _ _ _=>rfl) hT
theorem zW {w:World} {S:aA} {l:List V} {a:aq} (h:Rows w S l a):∃xs,xs.length=l.length*5/\ (l.length=0\/∃ad,a=some ad/\∀j u,xs[j]? =some u->w.cell? (ad.add j)=some u)/\cV w S l xs:=by
 rcases h with rfl|⟨b,o,rfl,hS,hr⟩
 ·exact⟨[],rfl, .inl rfl,rfl⟩
 ·have aux:∀(l:List V) (o:Nat),(∀i (h:i<l.length),V.Item w S b (o+i*5) l[i])->∃xs,xs.length=l.length*5/\ (∀j u,xs[j]? =some u->w.cell? ⟨b,o+j,none⟩=some u)/\cV w S l xs:=by
   intro l
   induction l with
   |nil=>exact fun o _=>⟨[],rfl,fun j u hj=>by simp at hj,rfl⟩
   |cons x r ih=>
    intro o hr;obtain⟨ka,kc,la,lc,⟨c0,c1,c2,c3,c4⟩,hin⟩:=hr 0 (by simp)
    obtain⟨xs,h1,h2,h3⟩:=ih (o+5) (fun i hi=>by
     have:=hr (i+1) (by simpa using hi);rw [List.getElem_cons_succ,show o+(i+1)*5=o+5+i*5 from by omega] at this
     exact this)
    simp only [Nat.zero_mul,Nat.add_zero,List.getElem_cons_zero] at c0 c1 c2 c3 c4 hin;refine⟨x.five ka kc la lc++xs,by simp [h1];omega,?_, .cons hin h3⟩;intro j u hj
    match j with
    |0=>simp at hj;subst hj;exact c0
    |1=>simp at hj;subst hj;exact c1
    |2=>simp at hj;subst hj;exact c2
    |3=>simp at hj;subst hj;exact c3
    |4=>simp at hj;subst hj;exact c4
    |j+5=>
     have:xs[j]? =some u:=by simpa using hj
     have:=h2 j u this
     rwa [show o+5+j=o+(j+5) by omega] at this
  obtain⟨xs,h1,h2,h3⟩:=aux l o hr;exact⟨xs,h1, .inr ⟨_,rfl,fun j u hj=>by rw [Addr.add_lit];exact h2 j u hj⟩,h3⟩
theorem qd {w:World} {b0 b1 e size:Nat} {v:Value} {n:Nat} {xs:List Value} (h:w.ownsRow b1 e size v n xs) (hb:b0<=b1):w.ownsRow b0 e size v n xs:=by
 obtain⟨hl,h1⟩:=h;refine⟨hl,?_⟩;rcases h1 with h1|⟨g,cap,cur,hv,hg,hr⟩
 ·exact .inl h1
 ·exact .inr ⟨g,cap,cur,hv,Nat.le_trans hb hg,hr⟩
theorem gN.mk {w:World} {base:Nat} {S:aA} {v:Value} {n:Nat} {l:List V} {xs:List Value} (hl:l.length=n) (ho:w.ownsRow base 41 5 v n xs) (hc:cV w (fR base S v) l xs):gN w base S v n l:=⟨hl,xs,ho,hc⟩
theorem Dm (cur:Array Value) (a j:Nat) (u0 u1 u2 u3 u4:Value) (h:j<a\/a+5<=j):(((((cur.setIfInBounds a u0).setIfInBounds (a+1) u1).setIfInBounds (a+2) u2).setIfInBounds (a+3) u3).setIfInBounds (a+4) u4)[j]? =cur[j]? :=by
 have h0:¬a=j:=by omega
 have h1:¬a+1=j:=by omega
 have h2:¬a+2=j:=by omega
 have h3:¬a+3=j:=by omega
 have h4:¬a+4=j:=by omega
 simp [Array.getElem?_setIfInBounds,h0,h1,h2,h3,h4]
theorem Gz {w w':World} {F:aA} {g k:Nat} {cur:Array Value} {T:TypeId} {l:List V} {y:V} {ka:aq} {kc:Nat} {la:aq} {lc:Nat} (hb:af w g cur T) (hi:∀i (h:i<l.length),V.Item w F g (i*5) l[i])
 (hk:k<l.length) (hsz:l.length*5<=cur.size) (hy:y.In w F ka kc la lc)
 (hb':af w' g (((((cur.setIfInBounds (k*5) (.int .i64 y.k)).setIfInBounds (k*5+1) (.int .i64 y.n)).setIfInBounds (k*5+2) (.string y.s)).setIfInBounds (k*5+3) (.slice ka y.keys.length kc)).setIfInBounds (k*5+4) (.slice la y.l.length lc)) T)
 (hK:Kept F w w'):∀i (h:i<(l.set k y).length),V.Item w' F g (i*5) (l.set k y)[i]:=by
 have hc:=hb.cells;have hc':=hb'.cells;intro i h;simp only [List.length_set] at h;by_cases e:i=k
 ·subst e
  refine⟨ka,kc,la,lc,?_,?_⟩
  ·simp only [hc',List.getElem_set_self]
   have l0:i*5<cur.size:=by omega
   have l1:i*5+1<cur.size:=by omega
   have l2:i*5+2<cur.size:=by omega
   have l3:i*5+3<cur.size:=by omega
   have l4:i*5+4<cur.size:=by omega
   simp [Array.getElem?_setIfInBounds,l0,l1,l2,l3,l4]
  ·rw [List.getElem_set_self];exact hy.keep hK (fun _ h _=>h)
 ·obtain⟨iC,iD,jc,iE,⟨c0,c1,c2,c3,c4⟩,hin⟩:=hi i h
  rw [hc] at c0 c1 c2 c3 c4;rw [List.getElem_set_ne (fun e'=>e e'.symm)];refine⟨iC,iD,jc,iE,?_,hin.keep hK (fun _ h _=>h)⟩;simp only [hc'];have hap:∀j,j<5->i*5+j<k*5\/k*5+5<=i*5+j:=by intro j hj;omega
  exact⟨(Dm _ _ _ _ _ _ _ _ (hap 0 (by omega))).trans c0,(Dm _ _ _ _ _ _ _ _ (hap 1 (by omega))).trans c1,(Dm _ _ _ _ _ _ _ _ (hap 2 (by omega))).trans c2,(Dm _ _ _ _ _ _ _ _ (hap 3 (by omega))).trans c3,(Dm _ _ _ _ _ _ _ _ (hap 4 (by omega))).trans c4⟩
theorem af.kA {w:World} {g:Nat} {cur:Array Value} {T:TypeId} (h:af w g cur T) (a:Nat) (u0 u1 u2 u3 u4:Value):af (w.setCells g a [u0,u1,u2,u3,u4]) g (((((cur.setIfInBounds a u0).setIfInBounds (a+1) u1).setIfInBounds (a+2) u2).setIfInBounds (a+3) u3).setIfInBounds (a+4) u4) T:=
 ((((h.set a u0).set (a+1) u1).set (a+2) u2).set (a+3) u3).set (a+4) u4
theorem af.nG {w:World} {n:Nat} {vs:Array Value} {T:TypeId} (h:af w n vs T) {g:Nat} (hn:n≠g) (a:Nat) (cs:List Value):af (w.setCells g a cs) n vs T:=by
 induction cs generalizing w a with
 |nil=>exact h
 |cons c r ih=>exact ih (h.other (p:=⟨g,a,none⟩) hn c) _
theorem Held.kA {T:aA} {a b:World} (h:Held T a b) {g:Nat} (hg:¬T g) (o:Nat) (cs:List Value):Held T a (b.setCells g o cs):=by
 induction cs generalizing b o with
 |nil=>exact h
 |cons c r ih=>exact ih (h.set (p:=⟨g,o,none⟩) hg c) _
theorem Ext.kA {a b:World} (h:Ext a b) {g:Nat} (hg:a.heap.size<=g) (o:Nat) (cs:List Value):Ext a (b.setCells g o cs):=by
 induction cs generalizing b o with
 |nil=>exact h
 |cons c r ih=>exact ih (h.setCell (p:=⟨g,o,none⟩) hg c) _
theorem GA {w:World} {g:Nat} {cur:Array Value} {T:TypeId} (h:af w g cur T) {o n:Nat} (hs:o+n<=cur.size):w.there g o n:=by
 intro j hj;rw [h.cells,h.free,Array.getElem?_eq_getElem (by omega)];exact⟨rfl,rfl⟩
theorem Tryz.GD:(prog.info? 41).map (·.size)=some 5:=by kernel_rfl
theorem V.Item.keep' {S T:aA} {w w':World} {b o:Nat} {x:V} (h:V.Item w S b o x) (hT:T b) (hk:Kept T w w') (hS:∀b,S b->T b):V.Item w' S b o x:=by
 obtain⟨ka,kc,la,lc,⟨c0,c1,c2,c3,c4⟩,hin⟩:=h;exact⟨ka,kc,la,lc,⟨hk.cell hT c0,hk.cell hT c1,hk.cell hT c2,hk.cell hT c3,hk.cell hT c4⟩,hin.keep (hk.mono hS) (fun _ h _=>h)⟩
theorem V.Item.mono {S T:aA} {w:World} {b o:Nat} {x:V} (h:V.Item w S b o x) (hT:∀b,S b->T b):V.Item w T b o x:=by
 obtain⟨ka,kc,la,lc,hc,hin⟩:=h;exact⟨ka,kc,la,lc,hc,hin.mono (fun b h _=>hT b h)⟩
theorem qg {w:World} {base:Nat} {F:aA} {a:aq} {n c:Nat} {l:List V} {xs:List Value} (hn:0<n) (hl:l.length=n) (ho:w.ownsRow base 41 5 (.slice a n c) n xs) (hc:cV w F l xs):
 ∃g cur,a=some ⟨g,0,none⟩/\base<=g/\af w g cur 41/\n*5<=cur.size/\∀i (h:i<l.length),V.Item w F g (i*5) l[i]:=by
 obtain⟨g,cap,cur,hv,hb,hg,hnc,hcm,hcs,ht⟩:=tZ ho hn;simp only [Value.slice.injEq,true_and] at hv;obtain⟨rfl,rfl⟩:=hv;have hlt:n*5<=c*5:=Nat.mul_le_mul_right _ hnc;refine⟨g,cur,rfl,hb,hg,by omega,?_⟩;intro i hi;obtain⟨ka,kc,la,lc,⟨c0,c1,c2,c3,c4⟩,hin⟩:=hc.item i hi;have hx:∀j u,xs[j]? =some u->w.cell? ⟨g,j,none⟩=some u:=by
  intro j u hj;rw [cell_of_row w g j cur _ _ hg];rw [<-ht] at hj;rw [List.getElem?_take] at hj
  split at hj
  ·simpa using hj
  ·cases hj
 exact⟨ka,kc,la,lc,⟨hx _ _ c0,hx _ _ c1,hx _ _ c2,hx _ _ c3,hx _ _ c4⟩,hin⟩
theorem Aa (a:aq) (n c:Nat) (ks:List ah) (S:aA) (key:ah) (w:World) (hn:ks.length=n) (hst:bT w S a ks) (hr:cn ks) (hbig:n<=1073741824):
 Calls prog 140 #[.slice a n c, .string key] w fun e w'=>e= .returned (.tuple #[.int .i64 (posOf ks key:Nat), .bool (hasB ks key)])/\Ext w w':=by
 subst hn;rcases hst with rfl|⟨b,o,rfl,hS,hc⟩
 ·refine(Any2.slices_BinarySearch_string_empty Tryz.Rz a c key w).mono ?_
  rintro e w' ⟨rfl,rfl⟩;exact⟨rfl,Ext.refl _⟩
 ·have hcs:∀j,j<ks.length->w.cell? ⟨b,o+j,none⟩=some (.string (ks.getD j ⟨#[]⟩)):=by
   intro j hj;rw [hc j hj];simp [List.getD,List.getElem?_eq_getElem hj]
  have hp:=tR ks key;have hb:Lib.bsGo (fun t=>Op.bytesLess (ks.getD t ⟨#[]⟩).toList key.toList) ks.length 0 ks.length=posOf ks key:=by
   have e:∀lo hi f,hi<=ks.length->Lib.bsGo (fun t=>Op.bytesLess (ks.getD t ⟨#[]⟩).toList key.toList) f lo hi=Lib.bsGo (fun t=>decide (t<posOf ks key)) f lo hi:=by
    intro lo hi f
    induction f generalizing lo hi with
    |zero=>intro _;rfl
    |succ f ih=>
     intro hh;unfold Lib.bsGo;by_cases hlt:lo<hi
     ·rw [if_pos hlt,if_pos hlt]
      have hm:(lo+hi)/2<ks.length:=by omega
      have:Op.bytesLess (ks.getD ((lo+hi)/2) ⟨#[]⟩).toList key.toList=decide ((lo+hi)/2<posOf ks key):=by
       have eg:ks.getD ((lo+hi)/2) ⟨#[]⟩=ks[(lo+hi)/2]:=by simp [List.getD,List.getElem?_eq_getElem hm]
       rw [eg];by_cases hp2:(lo+hi)/2<posOf ks key
       ·rw [decide_eq_true hp2];exact Qk hm hp2
       ·rw [decide_eq_false hp2];exact Qm hr hm (by omega)
      rw [this,ih _ _ hh,ih _ _ (by omega)]
     ·rw [if_neg hlt,if_neg hlt]
   rw [e _ _ _ (Nat.le_refl _)];exact Lib.bsGo_spec _ _ (fun t ht=>by simpa using ht) (fun t ht=>by simpa using ht) _ _ _ (by omega) (by omega) hp
  refine(Any2.slices_BinarySearch_string Tryz.Rz b o ks.length c (fun t=>ks.getD t ⟨#[]⟩) key w (by omega) hcs).mono ?_;rintro e w' ⟨rfl,q,rfl⟩;rw [hb];refine⟨?_,(Ext.refl w).drewN q⟩;have:decide (posOf ks key<ks.length/\ks.getD (posOf ks key) ⟨#[]⟩=key)=hasB ks key:=by
   rw [Bool.eq_iff_iff,decide_eq_true_eq,C8];constructor
   ·rintro⟨h1,h2⟩
    rw [List.getElem?_eq_getElem h1];simp only [List.getD,List.getElem?_eq_getElem h1,Option.getD_some] at h2;rw [h2]
   ·intro h
    obtain⟨h1,h2⟩:=List.getElem?_eq_some_iff.1 h;exact⟨h1,by simp [List.getD,h]⟩
  rw [this]
structure cZ (w:World):Prop where
 max:fW w
 es:∃ev,w.cell? ⟨3,0,none⟩=some ev/\ (ev= .nilIface\/∃te pe,ev= .iface te pe)
 er:∃ev,w.cell? ⟨4,0,none⟩=some ev/\ (ev= .nilIface\/∃te pe,ev= .iface te pe)
 tab:Lib.TabIs prog w "internal/strconv.uint64pow10" .u64 Lib.pow10Tab
theorem WV {P:Program} {w w':World} {name:String} {k:IntKind} {zs:List Int} (h:Lib.TabIs P w name k zs) (e:Ext w w'):Lib.TabIs P w' name k zs:=by
 unfold Lib.TabIs World.var? at*
 cases hg:P.globalNamed name with
 |none=>simp [hg] at h
 |some g=>
  simp only [hg,Option.bind_some] at h⊢;have hlt:g<w.heap.size:=by
   rcases Nat.lt_or_ge g w.heap.size with h'|h'
   ·exact h'
   ·rw [Array.getElem?_eq_none h'] at h;simp at h
  rw [Below.block e g hlt];exact h
theorem cZ.ext {w w':World} (h:cZ w) (e:Ext w w'):cZ w':=by
 obtain⟨h1,⟨ev,h2,h2'⟩,⟨er,h3,h3'⟩,h4⟩:=h;exact⟨h1.ext e,⟨ev,e.cell h2,h2'⟩,⟨er,e.cell h3,h3'⟩,WV h4 e⟩
theorem x9 {l:List UInt8} {v:Int} (h:Lib.atoiAll l= .ok v): -9223372036854775808<=v/\v<=9223372036854775807:=by
 unfold Lib.atoiAll at h
 split at h
 ·cases h
 ·simp only at h
  split at h
  ·cases h
  ·cases h
  ·split at h
   ·cases h
   ·split at h
    ·cases h
    ·cases h
     split<;>omega
theorem tG (s:ah) (hs:s.size<=1073741824) (v:Int) (h:Lib.atoiAll s.data.toList= .ok v) (w:World):
 Calls prog 137 #[.string s] w fun e w'=>e= .returned (.tuple #[.int .i64 v, .nilIface])/\Ext w w':=by
 refine(Tryz.strconv_Atoi_ok s (by omega) v h w).mono ?_;rintro e w' ⟨rfl,h|⟨t,h⟩⟩
 ·subst h;exact⟨rfl,Ext.refl _⟩
 ·subst h;exact⟨rfl,Go.Joins.below_bytesWorld _ _ _ _ (Nat.le_refl _)⟩
theorem ya (s:ah) (hs:s.size<=1073741824) (h:∀v,Lib.atoiAll s.data.toList≠ .ok v) (w:World) (hl:cZ w):
 Calls prog 137 #[.string s] w fun e w'=>∃n N,e= .returned (.tuple #[.int .i64 n, .iface 245 (.pointer (some ⟨N,0,none⟩))])/\Ext w w':=by
 obtain⟨ev,h2,h2'⟩:=hl.es;obtain⟨er,h3,h3'⟩:=hl.er
 cases hq:Lib.atoiAll s.data.toList
 ·rename_i v;exact absurd hq (h v)
 ·refine(Any.strconv_Atoi_syntax Tryz.Jn s (by omega) hq ev w h2 h2').mono ?_
  rintro e w' ⟨N,rfl,-,-,h4⟩;exact⟨_,N,rfl,h4⟩
 ·refine(Any.strconv_Atoi_range Tryz.Jn s (by omega) hq er w h3 h3').mono ?_
  rintro e w' ⟨N,rfl,-,-,h4⟩;exact⟨_,N,rfl,h4⟩
theorem ie (n:Int) (h0: -9223372036854775808<=n) (h1:n<=9223372036854775807) (q:ah) (hq:Lib.itoa n=q.data.toList) (w:World) (hl:cZ w):
 Calls prog 138 #[.int .i64 n] w fun e w'=>e= .returned (.string q)/\Ext w w':=by
 refine(Tryz.strconv_Itoa n h0 h1 w hl.tab).mono ?_;rintro e w' ⟨rfl,k,os,rfl⟩;refine⟨?_,Lib.below_grow _ _ (Nat.le_refl _) _ _⟩;rw [hq]
theorem WW (n:Nat):jF ⟨#[45]⟩ n=some n:=by unfold jF;rw [if_pos rfl]
theorem BW (name:ah) (n:Nat) (hs:name.size<=1073741824) (hn:n<=1073741824) (w:World) (hl:cZ w):
 Calls prog 159 #[.string name, .int .i64 n] w fun e w'=>e= .returned (.tuple #[.int .i64 ((jF name n).getD 0:Nat), .bool (jF name n).isSome])/\Ext w w':=by
 by_cases hd:name.data.toList= [45]
 ·obtain rfl:name=⟨#[45]⟩:=ln (by rw [ByteArray.toList_eq,ByteArray.toList_eq,hd])
  rw [WW];go_enter func159,ntmps159;go_wp2_with fail;go_ret2;exact⟨rfl,Xt⟩
 ·have hb1:(name.toList== [45])=false:=by rw [ByteArray.toList_eq];simpa using hd
  have hb2:¬name.toList= [45]:=by rw [ByteArray.toList_eq];exact hd
  have hi:jF name n=(match Lib.atoiAll name.data.toList with| .ok k=>if name.size<=4/\0<=k/\Lib.itoa k=name.data.toList then some k.toNat else none|_=>none):=by unfold jF;rw [if_neg hd];cases Lib.atoiAll name.data.toList<;>rfl
  by_cases hok:∃v,Lib.atoiAll name.data.toList= .ok v
  ·obtain⟨v,hv⟩:=hok
   obtain⟨r0,r1⟩:=x9 hv;rw [hv] at hi;simp only at hi;have Hv:=ae hv;clear hv hd;by_cases h4:name.size<=4
   ·have WX:¬(4:Int)<(name.size:Int):=by omega
    have h4j:(name.size:Int)<=4:=by omega
    by_cases h0:0<=v
    ·obtain⟨u,rfl⟩:=Int.eq_ofNat_of_zero_le h0
     rw [Int.toNat_natCast] at hi;have Ca:¬(u:Int)<0:=by omega
     obtain⟨q,hq⟩:∃q:ah,Lib.itoa (u:Int)=q.data.toList:=⟨⟨(Lib.itoa (u:Int)).toArray⟩,rfl⟩;have Hq:=ae hq;by_cases he:q=name
     ·rw [if_pos ⟨h4,h0,by rw [hq,he]⟩] at hi
      subst he;rw [hi];clear hi hq;go_enter func159,ntmps159;go_wp2_with fail;(with_reducible refine(tG q hs (u:Int) Hv.out _).mono ?_);rintro e w1 ⟨rfl,h1⟩;obtain⟨nY,nZ,iF⟩:=cu h1;(try simp at iF);have hx1:Ext w w1:=Xt;clear h1;go_wp2_with fail;(with_reducible refine(ie (u:Int) r0 r1 q Hq.out _ (hl.ext Xt)).mono ?_);rintro e w2 ⟨rfl,h2⟩;obtain⟨rz,rA,mg⟩:=cu h2;(try simp at mg);go_wp2_with fail;go_ret2;exact⟨rfl,Xt⟩
     ·rw [if_neg (fun h=>he (ln (by rw [ByteArray.toList_eq,ByteArray.toList_eq,<-hq,h.2.2])))] at hi
      have OB:(q.toList==name.toList)=false:=by simpa using fun h=>he (ln h)
      have yb:(q.toList !=name.toList)=true:=by simpa using fun h=>he (ln h)
      rw [hi];clear hi hq he;go_enter func159,ntmps159;go_wp2_with fail;(with_reducible refine(tG name hs (u:Int) Hv.out _).mono ?_);rintro e w1 ⟨rfl,h1⟩;obtain⟨nY,nZ,iF⟩:=cu h1;(try simp at iF);have hx1:Ext w w1:=Xt;clear h1;go_wp2_with fail;(with_reducible refine(ie (u:Int) r0 r1 q Hq.out _ (hl.ext Xt)).mono ?_);rintro e w2 ⟨rfl,h2⟩;obtain⟨rz,rA,mg⟩:=cu h2;(try simp at mg);go_wp2_with fail;go_ret2;exact⟨rfl,Xt⟩
    ·have Ca:v<0:=by omega
     rw [if_neg (fun h=>h0 h.2.1)] at hi;rw [hi];clear hi;go_enter func159,ntmps159;go_wp2_with fail;(with_reducible refine(tG name hs v Hv.out _).mono ?_);rintro e w1 ⟨rfl,h1⟩;obtain⟨nY,nZ,iF⟩:=cu h1;(try simp at iF);go_wp2_with fail;go_ret2;exact⟨rfl,Xt⟩
   ·have WX:(4:Int)<(name.size:Int):=by omega
    rw [if_neg (fun h=>h4 h.1)] at hi;rw [hi];clear hi;go_enter func159,ntmps159;go_wp2_with fail;(with_reducible refine(tG name hs v Hv.out _).mono ?_);rintro e w1 ⟨rfl,h1⟩;obtain⟨nY,nZ,iF⟩:=cu h1;(try simp at iF);go_wp2_with fail;go_ret2;exact⟨rfl,Xt⟩
  ·have hbad:∀v,Lib.atoiAll name.data.toList≠ .ok v:=fun v h=>hok ⟨v,h⟩
   have hi2:jF name n=none:=by
    rw [hi]
    cases hq:Lib.atoiAll name.data.toList
    ·rename_i v;exact absurd hq (hbad v)
    ·rfl
    ·rfl
   have rB:=ae hbad;rw [hi2];clear hi hi2 hbad hok hd;go_enter func159,ntmps159;go_wp2_with fail;(refine(ya name hs rB.out _ (hl.ext Xt)).mono ?_);rintro e w1 ⟨n1,N1,rfl,h1⟩;go_wp2_with fail;go_ret2;exact⟨rfl,Xt⟩
def OC (r:Option Nat) (w:World) (e:Ending) (w':World):Prop:=∃q:Nat,e= .returned (.tuple #[.int .i64 q, .bool r.isSome])/\ (∀i,r=some i->q=i)/\Ext w w'
theorem uG (x:V) (ka:aq) (kc:Nat) (la:aq) (lc:Nat) (S:aA) (name:ah) (w:World) (hx:x.sound) (hsz:x.size<=1073741824) (hs:name.size<=1073741824) (hin:x.In w S ka kc la lc) (hl:cZ w):
 Calls prog 161 #[x.val ka kc la lc, .string name] w (OC (x.child name) w):=by
 have hll:=x.kI;have hf:=hx.flat;by_cases h5:x.k=5
 ·have mP:(x.k==5)=true:=by simpa using h5
  have hlen:=hf.len h5;have bs:=fun w' (e:Ext w w')=>Aa ka x.keys.length kc x.keys S name w' rfl (((V.dD ..).1 (hin.ext e)).2.2.1) hf.dO (by omega);have Bs:=ae bs;have hc:x.child name=if hasB x.keys name=true then some (posOf x.keys name) else none:=by unfold V.child;rw [if_pos h5]
  have Hc:=ae hc;clear bs hf hc hlen h5;go_enter func161,ntmps161;go_wp2_with fail;(refine(Bs.out _ Xt).mono ?_);rintro e w1 ⟨rfl,h1⟩;go_wp2_with fail;go_ret2;refine⟨posOf x.keys name,?_,?_,Xt⟩
  ·rw [Hc.out]
   cases hasB x.keys name<;>rfl
  ·rw [Hc.out]
   intro i h
   split at h
   ·exact Option.some.inj h
   ·cases h
 ·have mP:(x.k==5)=false:=by simpa using h5
  by_cases h4:x.k=4
  ·have hk4:(x.k==4)=true:=by simpa using h4
   have hc:x.child name=(jF name x.l.length).bind fun k=>if k<x.l.length then some k else none:=by unfold V.child;rw [if_neg h5,if_pos h4]
   have Hc:=ae hc;clear hf hc h5 h4
   cases hi:jF name x.l.length with
   |none=>
    have Hi:=ae hi;have idx:=fun w' (e:Ext w w')=>BW name x.l.length hs (by omega) w' (hl.ext e);rw [hi] at idx;have E7:=ae idx;clear hi idx;go_enter func161,ntmps161;go_wp2_with fail;(refine(E7.out _ Xt).mono ?_);rintro e w1 ⟨rfl,h1⟩;obtain⟨nY,nZ,iF⟩:=cu h1;(try simp at iF);go_wp2_with fail
    go_quiet (fail)
    go_wp2_with fail;go_ret2;refine⟨0,?_,?_,Xt⟩
    ·rw [Hc.out,Hi.out];rfl
    ·rw [Hc.out,Hi.out];intro i h;cases h
   |some q=>
    have Hi:=ae hi;have idx:=fun w' (e:Ext w w')=>BW name x.l.length hs (by omega) w' (hl.ext e);rw [hi] at idx;have E7:=ae idx;clear hi idx;by_cases hlt:q<x.l.length
    ·have dH:(q:Int)<(x.l.length:Int):=by omega
     go_enter func161,ntmps161;go_wp2_with fail;(refine(E7.out _ Xt).mono ?_);rintro e w1 ⟨rfl,h1⟩;obtain⟨nY,nZ,iF⟩:=cu h1;(try simp at iF);go_wp2_with fail
     go_quiet (fail)
     go_wp2_with fail;go_ret2;refine⟨q,?_,?_,Xt⟩
     ·rw [Hc.out,Hi.out,Option.bind_some,if_pos hlt];simp
     ·rw [Hc.out,Hi.out,Option.bind_some,if_pos hlt];intro i h;exact Option.some.inj h
    ·have dH:(x.l.length:Int)<= (q:Int):=by omega
     go_enter func161,ntmps161;go_wp2_with fail;(refine(E7.out _ Xt).mono ?_);rintro e w1 ⟨rfl,h1⟩;obtain⟨nY,nZ,iF⟩:=cu h1;(try simp at iF);go_wp2_with fail
     go_quiet (fail)
     go_wp2_with fail;go_ret2;refine⟨q,?_,?_,Xt⟩
     ·rw [Hc.out,Hi.out,Option.bind_some,if_neg hlt];simp
     ·rw [Hc.out,Hi.out,Option.bind_some,if_neg hlt];intro i h;cases h
  ·have hk4:(x.k==4)=false:=by simpa using h4
   have hc:x.child name=none:=by unfold V.child;rw [if_neg h5,if_neg h4]
   rw [hc];clear hf hc h5 h4;go_enter func161,ntmps161;go_wp2_with fail;go_ret2;exact⟨0,rfl,(fun i h=>by cases h),Xt⟩
end Go.Proofs.YtlcebdaghmdkeaaGreatDoor
namespace Go.Proofs.YtlcebdaghmdkeaaGreatDoor
open Go.Proofs.Tryz
open Go.RowKit
attribute [local go_sem↓] Go.wp_at_zero Go.wp_at_succ
theorem Xe (s:List UInt8):(mU s).length<=s.length*4:=by
 have h1:=E9 s [126,49] [47] (by simp) (by decide);have h2:=E9 (Lib.replaceAll s [126,49] [47]) [126,48] [126] (by simp) (by decide);unfold mU;simp only [List.length_cons,List.length_nil] at h1 h2;omega
theorem Xf {p:List UInt8} {l:List (List UInt8)} (h:kj p=some l):l.length<=2001/\∀q∈l,q.length<=8000:=by
 unfold kj at h
 cases p with
 |nil=>simp at h;subst h;simp
 |cons c r=>
  simp only at h
  split at h
  ·rename_i hc
   have hr:r.length<=2000:=by have:=hc.2;simp at this;omega
   split at h
   ·simp only [Option.some.injEq] at h
    subst h;refine⟨by have:=OL r;simp;omega,fun q hq=> ?_⟩;obtain⟨s,hs,rfl⟩:=List.mem_map.1 hq;have:=OM r s hs;have:=Xe s;omega
   ·cases h
  ·cases h
theorem OO {p:ah} {ks:List ah} (h:cM p=some ks):kj p.data.toList=some (ks.map (·.data.toList)):=by
 unfold cM at h
 cases hn:kj p.data.toList with
 |none=>rw [hn] at h;cases h
 |some m=>
  rw [hn] at h;simp only [Option.map_some,Option.some.injEq] at h;subst h;have:((fun x:ah=>x.data.toList)∘fun s:List UInt8=>(⟨s.toArray⟩:ah))=id:=by funext s;rfl
  simp [this]
theorem B0 {p:ah} {ks:List ah} (h:cM p=some ks):ks.length<=2001/\∀k∈ks,k.size<=8000:=by
 obtain⟨h1,h2⟩:=Xf (OO h);refine⟨by simpa using h1,fun k hk=> ?_⟩;have:=h2 k.data.toList (List.mem_map_of_mem hk);have e:k.data.toList.length=k.size:=Array.length_toList;omega
def Xg (x:V) (p:ah) (w:World) (e:Ending) (w':World):Prop:=
 (∃a n c ks,cM p=some ks/\x.fine=true/\e= .returned (.tuple #[.slice a n c, .int .i64 0])/\ks.length=n/\aO a n c/\bT w' (fun b=>w.heap.size<=b) a ks/\Ext w w')\/
 ((cM p=none\/x.fine=false)/\e= .returned (.tuple #[.slice none 0 0, .int .i64 1])/\Ext w w')
theorem zV (x:V) (ka:aq) (kc:Nat) (la:aq) (lc:Nat) (S:aA) (p:ah) (w:World) (hsz:x.size<=1073741824) (hin:x.In w S ka kc la lc) (hp:p.size<=1073741824) (hm:fW w):
 Calls prog 156 #[x.val ka kc la lc, .string p] w (Xg x p w):=by
 have aw:x.fine=false\/x.fine=true:=by cases x.fine<;>simp
 rcases aw with hf|hf
 all_goals
  have Hf:=ae hf;go_enter func156,ntmps156;go_upto_region 1 with fail
  refine aI (R:=fun wx=>aD wx w.heap.size x ka kc la lc/\Ext w wx) ⟨aj,Xt⟩ ?_;rintro wa ⟨ag,aF⟩;go_wp2_with fail;(refine(OP p hp _ (hm.ext Xt)).mono ?_);rintro e w1 (⟨l',a,n,c,ks,h1,rfl,h2,h3,h4,h5,h6⟩|⟨h1,rfl,h6⟩)
 ·have hnb:=Fa (ks:=ks) (p:=p) (by rw [h1,h3])
  have lq:=ae hnb;have ag:=af.ext h6 ag;have hx1:Ext w w1:=Xt;have agI:=aF.size;clear h6 aF h1 h3 hnb h2 h5;obtain⟨hc0,aw,hl0⟩:=ag.see;go_wp2_with fail;(with_reducible refine(df x ka kc la lc S _ hsz (hin.ext Xt)).mono ?_);rintro e w2 ⟨rfl,h2'⟩;obtain⟨rz,rA,mg⟩:=cu h2';(try simp at mg);rw [hf];go_wp2;go_ret2;exact .inr ⟨.inr Hf.out,rfl,Xt⟩
 ·have lq:=ae (Jp h1)
  have hx1:Ext w w1:=Xt;clear h1 h6 aF ag;go_wp2_with fail;go_ret2;exact .inr ⟨.inl lq.out,rfl,Xt⟩
 ·have hnb:=Fa (ks:=ks) (p:=p) (by rw [h1,h3])
  have lq:=ae hnb;have H2:=ae h2;have ag:=af.ext h6 ag;have hx1:Ext w w1:=Xt;have h5:=h5.keep (T:=fun b=>w.heap.size<=b) (fun _ _ _=>rfl) (fun b h _=>Nat.le_trans aF.size h);clear h6 aF h1 h3 hnb h2;obtain⟨hc0,aw,hl0⟩:=ag.see;go_wp2_with fail;(with_reducible refine(df x ka kc la lc S _ hsz (hin.ext Xt)).mono ?_);rintro e w2 ⟨rfl,h2'⟩;obtain⟨rz,rA,mg⟩:=cu h2';(try simp at mg);rw [hf];go_wp2;go_ret2;exact .inl ⟨a,n,c,ks,lq.out,Hf.out,rfl,H2.out,h4,h5.ext Xt,Xt⟩
 ·have lq:=ae (Jp h1)
  have hx1:Ext w w1:=Xt;clear h1 h6 aF ag;go_wp2_with fail;go_ret2;exact .inr ⟨.inl lq.out,rfl,Xt⟩
end Go.Proofs.YtlcebdaghmdkeaaGreatDoor
