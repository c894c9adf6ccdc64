import Derived.Deep.MidRow
import Derived.Lib.AppendIntMem
import Derived.Lib.SmallJoins
import Derived.Lib.AppendStr
import Derived.Lib.OthersKept
import Derived.Test.YtlcebdaghmdkeabGreatDoorZ4
import Derived.Test.YtlcebdaghmdkeabGreatDoorZ5
set_option linter.all false
set_option maxRecDepth 100000
set_option maxHeartbeats 64000000
namespace Go.Proofs.YtlcebdaghmdkeabGreatDoor
open Go.Proofs.Tryz
open Go.RowKit
theorem Gl (a:au) (n c:Nat) (news:List Value) (w:World) (hok:aM a n c) (hbig:n<=1073741824) (hl:news.length=n*1) (hsrc:n=0\/∃ad,a=some ad/\∀j u,news[j]? =some u->w.cell? (ad.add j)=some u) (h1:∀u∈news,u.oneCell'=true):
 Calls prog 36 #[.slice a n c] w fun e w'=>∃a' c',e= .returned (.slice a' n c')/\aM a' n c'/\w'.ownsRow w.heap.size 9 1 (.slice a' n c') n news/\Ext w w':=by
 obtain⟨i0,hi,hz0,hz1,hz2⟩:=info_parts Tryz.xe;have Rv:∀(w:World) (a:au) (n c n' c':Nat),(binOp .eql 33 (.slice a n c) (.slice none n' c')).run prog w= .ok (.bool a.isNone) w:=fun w a n c n' c'=>Lib.run_eql_slice_nil w _ _ a n c n' c' underlying33
 cases a with
 |none=>
  obtain rfl:=hok.2.2 rfl;obtain rfl:n=0:=by have:=hok.1;omega
  obtain rfl:news= []:=List.eq_nil_of_length_eq_zero (by simpa using hl);clear hok hl hsrc h1;go_enter func36,ntmps36;go_wp2_with fail;go_ret;exact⟨none,0,rfl,aM.nil,World.ownsRow_nil _ _ _ _,Ext.refl _⟩
 |some ad=>
  have hc:∀j u,news[j]? =some u->w.cell? (ad.add j)=some u:=by
   rcases hsrc with h0|⟨K1,he,h⟩
   ·subst h0
    obtain rfl:news= []:=List.eq_nil_of_length_eq_zero (by simpa using hl);intro j u hj;simp at hj
   ·simp only [Option.some.injEq] at he;subst he;exact h
  have Hc:=ae hc;have Hl:=ae hl;clear hc hsrc hl;have h63:n<=maxLen:=by unfold maxLen;omega
  go_enter func36,ntmps36;go_wp2_with (at_builtin;refine wpList_append_own _ rfl _ _ 33 rfl w.heap.size 9 i0 _ 1 16 underlying33 hi hz0 hz1 hz2 rfl (by decide) _ _ _ rfl (World.ownsRow_made w #[] 0 (Nat.le_refl _) (Nat.zero_le _) (by simp)) ad n c news rfl ?qc1 ?qc2 ?qc3 ?qc4 ?qc5 ?qc6 ?_)
  case qc1=>exact Hl.out
  case qc2=>
   intro j u hj;exact Lib.cell?_alloc_some _ (Hc.out j u hj)
  case qc3=>exact h1
  case qc4=>rw [Nat.zero_add];exact h63
  case qc5=>rw [Nat.zero_add];omega
  case qc6=>simp
  intro v' w1 hown hgrow hnil;obtain⟨a',c',rfl,fL⟩:=fT hown;go_wp2;go_ret;refine⟨a',c',by simp,by simpa using fL,by simpa using hown,?_⟩;exact((Below.refl _ w).alloc (Nat.le_refl _) _).grown hgrow (by simp) (by intro k hk;simp [Value.ownBlock] at hk;omega)
theorem Ai (a:au) (n c:Nat) (news:List Value) (w:World) (hok:aM a n c) (hbig:n<=1073741824) (hl:news.length=n*5) (hsrc:n=0\/∃ad,a=some ad/\∀j u,news[j]? =some u->w.cell? (ad.add j)=some u) (h1:∀u∈news,u.oneCell'=true):
 Calls prog 61 #[.slice a n c] w fun e w'=>∃a' c',e= .returned (.slice a' n c')/\aM a' n c'/\w'.ownsRow w.heap.size 36 5 (.slice a' n c') n news/\Ext w w':=by
 obtain⟨i0,hi,hz0,hz1,hz2⟩:=info_parts Tryz.zh;have Rv:∀(w:World) (a:au) (n c n' c':Nat),(binOp .eql 34 (.slice a n c) (.slice none n' c')).run prog w= .ok (.bool a.isNone) w:=fun w a n c n' c'=>Lib.run_eql_slice_nil w _ _ a n c n' c' underlying34
 cases a with
 |none=>
  obtain rfl:=hok.2.2 rfl;obtain rfl:n=0:=by have:=hok.1;omega
  obtain rfl:news= []:=List.eq_nil_of_length_eq_zero (by simpa using hl);clear hok hl hsrc h1;go_enter func61,ntmps61;go_wp2_with fail;go_ret;exact⟨none,0,rfl,aM.nil,World.ownsRow_nil _ _ _ _,Ext.refl _⟩
 |some ad=>
  have hc:∀j u,news[j]? =some u->w.cell? (ad.add j)=some u:=by
   rcases hsrc with h0|⟨K1,he,h⟩
   ·subst h0
    obtain rfl:news= []:=List.eq_nil_of_length_eq_zero (by simpa using hl);intro j u hj;simp at hj
   ·simp only [Option.some.injEq] at he;subst he;exact h
  have Hc:=ae hc;have Hl:=ae hl;clear hc hsrc hl;have h63:n<=maxLen:=by unfold maxLen;omega
  go_enter func61,ntmps61;go_wp2_with (at_builtin;refine wpList_append_own _ rfl _ _ 34 rfl w.heap.size 36 i0 _ 5 80 underlying34 hi hz0 hz1 hz2 rfl (by decide) _ _ _ rfl (World.ownsRow_made w #[] 0 (Nat.le_refl _) (Nat.zero_le _) (by simp)) ad n c news rfl ?qc1 ?qc2 ?qc3 ?qc4 ?qc5 ?qc6 ?_)
  case qc1=>exact Hl.out
  case qc2=>
   intro j u hj;exact Lib.cell?_alloc_some _ (Hc.out j u hj)
  case qc3=>exact h1
  case qc4=>rw [Nat.zero_add];exact h63
  case qc5=>rw [Nat.zero_add];omega
  case qc6=>simp
  intro v' w1 hown hgrow hnil;obtain⟨a',c',rfl,fL⟩:=fT hown;go_wp2;go_ret;refine⟨a',c',by simp,by simpa using fL,by simpa using hown,?_⟩;exact((Below.refl _ w).alloc (Nat.le_refl _) _).grown hgrow (by simp) (by intro k hk;simp [Value.ownBlock] at hk;omega)
abbrev V.five (x:V) (ka:au) (kc:Nat) (la:au) (lc:Nat):List Value:= [.int .i64 x.k, .int .i64 x.n, .string x.s, .slice ka x.keys.length kc, .slice la x.l.length lc]
theorem V.mH (x:V) (ka:au) (kc:Nat) (la:au) (lc:Nat):∀u∈x.five ka kc la lc,u.oneCell'=true:=by
 intro u hu;simp only [V.five,List.mem_cons,List.not_mem_nil,or_false] at hu;rcases hu with rfl|rfl|rfl|rfl|rfl<;>rfl
theorem cQ.cons {w:World} {T:az} {x:V} {r:List V} {t:List Value} {ka:au} {kc:Nat} {la:au} {lc:Nat} (hx:x.In w T ka kc la lc) (hr:cQ w T r t):cQ w T (x::r) (x.five ka kc la lc++t):=
 ⟨ka,kc,la,lc,t,rfl,hx,hr⟩
theorem cQ.Gm {w:World} {T:az} {x:V} {r:List V} {xs:List Value} (h:cQ w T (x::r) xs):∃ka kc la lc t,xs=x.five ka kc la lc++t/\x.In w T ka kc la lc/\cQ w T r t:=by
 obtain⟨ka,kc,la,lc,t,rfl,h1,h2⟩:=h;exact⟨ka,kc,la,lc,t,rfl,h1,h2⟩
theorem cQ.app {w:World} {T:az} {a b:List V} {x y:List Value} (h1:cQ w T a x) (h2:cQ w T b y):cQ w T (a++b) (x++y):=by
 induction a generalizing x with
 |nil=>obtain rfl:x= []:=h1;exact h2
 |cons v r ih=>
  obtain⟨ka,kc,la,lc,t,rfl,h3,h4⟩:=h1.Gm;rw [List.cons_append,List.append_assoc];exact .cons h3 (ih h4)
theorem cQ.nil {w:World} {T:az}:cQ w T [] []:=rfl
theorem cQ.cut {w:World} {T:az} {l:List V} {xs:List Value} (h:cQ w T l xs) (k:Nat):cQ w T (l.take k) (xs.take (k*5))/\cQ w T (l.drop k) (xs.drop (k*5)):=by
 induction k generalizing l xs with
 |zero=>exact⟨by rw [Nat.zero_mul,List.take_zero,List.take_zero];exact .nil,by simpa using h⟩
 |succ k ih=>
  cases l with
  |nil=>obtain rfl:xs= []:=h;exact⟨by rw [List.take_nil,List.take_nil];exact .nil,by rw [List.drop_nil,List.drop_nil];exact .nil⟩
  |cons v r=>
   obtain⟨ka,kc,la,lc,t,rfl,h3,h4⟩:=h.Gm;obtain⟨h5,h6⟩:=ih h4;have e:(k+1)*5=k*5+1+1+1+1+1:=by omega
   rw [e];refine⟨?_,?_⟩
   ·simp only [List.take_succ_cons,V.five,List.cons_append,List.nil_append]
    exact⟨ka,kc,la,lc,_,rfl,h3,h5⟩
   ·simpa using h6
theorem cQ.one {w:World} {T:az} {l:List V} {xs:List Value} (h:cQ w T l xs):∀u∈xs,u.oneCell'=true:=by
 induction l generalizing xs with
 |nil=>obtain rfl:xs= []:=h;intro u hu;cases hu
 |cons v r ih=>
  obtain⟨ka,kc,la,lc,t,rfl,h3,h4⟩:=h.Gm;intro u hu;rcases List.mem_append.1 hu with hu|hu
  ·exact v.mH _ _ _ _ u hu
  ·exact ih h4 u hu
theorem cQ.ins {w:World} {T:az} {l:List V} {xs:List Value} (h:cQ w T l xs) (k:Nat) {x:V} {ka:au} {kc:Nat} {la:au} {lc:Nat} (hx:x.In w T ka kc la lc):
 cQ w T (l.take k++x::l.drop k) (xs.take (k*5)++x.five ka kc la lc++xs.drop (k*5)):=by
 rw [List.append_assoc];exact(h.cut k).1.app (.cons hx (h.cut k).2)
theorem cQ.del {w:World} {T:az} {l:List V} {xs:List Value} (h:cQ w T l xs) (k:Nat):cQ w T (l.take k++l.drop (k+1)) (xs.take (k*5)++xs.drop ((k+1)*5)):=(h.cut k).1.app (h.cut (k+1)).2
theorem cQ.mono {w:World} {S T:az} {l:List V} {xs:List Value} (h:cQ w S l xs) (hT:∀b,S b->b<w.heap.size->T b):cQ w T l xs:=h.keep (fun _ _ _=>rfl) hT
theorem Ah {w:World} {S:az} {l:List V} {a:au} (h:Rows w S l a):∃xs,xs.length=l.length*5/\ (l.length=0\/∃ad,a=some ad/\∀j u,xs[j]? =some u->w.cell? (ad.add j)=some u)/\cQ w S l xs:=by
 rcases h with rfl|⟨b,o,rfl,hS,hr⟩
 ·exact⟨[],rfl, .inl rfl,rfl⟩
 ·have aux:∀(l:List V) (o:Nat),(∀i (h:i<l.length),V.Item w S b (o+i*5) l[i])->∃xs,xs.length=l.length*5/\ (∀j u,xs[j]? =some u->w.cell? ⟨b,o+j,none⟩=some u)/\cQ w S l xs:=by
   intro l
   induction l with
   |nil=>exact fun o _=>⟨[],rfl,fun j u hj=>by simp at hj,rfl⟩
   |cons x r ih=>
    intro o hr;obtain⟨ka,kc,la,lc,⟨c0,c1,c2,c3,c4⟩,hin⟩:=hr 0 (by simp)
    obtain⟨xs,h1,h2,h3⟩:=ih (o+5) (fun i hi=>by
     have:=hr (i+1) (by simpa using hi);rw [List.getElem_cons_succ,show o+(i+1)*5=o+5+i*5 from by omega] at this
     exact this)
    simp only [Nat.zero_mul,Nat.add_zero,List.getElem_cons_zero] at c0 c1 c2 c3 c4 hin;refine⟨x.five ka kc la lc++xs,by simp [h1];omega,?_, .cons hin h3⟩;intro j u hj
    match j with
    |0=>simp at hj;subst hj;exact c0
    |1=>simp at hj;subst hj;exact c1
    |2=>simp at hj;subst hj;exact c2
    |3=>simp at hj;subst hj;exact c3
    |4=>simp at hj;subst hj;exact c4
    |j+5=>
     have:xs[j]? =some u:=by simpa using hj
     have:=h2 j u this
     rwa [show o+5+j=o+(j+5) by omega] at this
  obtain⟨xs,h1,h2,h3⟩:=aux l o hr;exact⟨xs,h1, .inr ⟨_,rfl,fun j u hj=>by rw [Addr.add_lit];exact h2 j u hj⟩,h3⟩
theorem qw {w:World} {b0 b1 e size:Nat} {v:Value} {n:Nat} {xs:List Value} (h:w.ownsRow b1 e size v n xs) (hb:b0<=b1):w.ownsRow b0 e size v n xs:=by
 obtain⟨hl,h1⟩:=h;refine⟨hl,?_⟩;rcases h1 with h1|⟨g,cap,cur,hv,hg,hr⟩
 ·exact .inl h1
 ·exact .inr ⟨g,cap,cur,hv,Nat.le_trans hb hg,hr⟩
theorem gQ.mk {w:World} {base:Nat} {S:az} {v:Value} {n:Nat} {l:List V} {xs:List Value} (hl:l.length=n) (ho:w.ownsRow base 36 5 v n xs) (hc:cQ w (fX base S v) l xs):gQ w base S v n l:=⟨hl,xs,ho,hc⟩
theorem Du (cur:Array Value) (a j:Nat) (u0 u1 u2 u3 u4:Value) (h:j<a\/a+5<=j):(((((cur.setIfInBounds a u0).setIfInBounds (a+1) u1).setIfInBounds (a+2) u2).setIfInBounds (a+3) u3).setIfInBounds (a+4) u4)[j]? =cur[j]? :=by
 have h0:¬a=j:=by omega
 have h1:¬a+1=j:=by omega
 have h2:¬a+2=j:=by omega
 have h3:¬a+3=j:=by omega
 have h4:¬a+4=j:=by omega
 simp [Array.getElem?_setIfInBounds,h0,h1,h2,h3,h4]
theorem Gn {w w':World} {F:az} {g k:Nat} {cur:Array Value} {T:TypeId} {l:List V} {y:V} {ka:au} {kc:Nat} {la:au} {lc:Nat} (hb:af w g cur T) (hi:∀i (h:i<l.length),V.Item w F g (i*5) l[i])
 (hk:k<l.length) (hsz:l.length*5<=cur.size) (hy:y.In w F ka kc la lc)
 (hb':af w' g (((((cur.setIfInBounds (k*5) (.int .i64 y.k)).setIfInBounds (k*5+1) (.int .i64 y.n)).setIfInBounds (k*5+2) (.string y.s)).setIfInBounds (k*5+3) (.slice ka y.keys.length kc)).setIfInBounds (k*5+4) (.slice la y.l.length lc)) T)
 (hK:Kept F w w'):∀i (h:i<(l.set k y).length),V.Item w' F g (i*5) (l.set k y)[i]:=by
 have hc:=hb.cells;have hc':=hb'.cells;intro i h;simp only [List.length_set] at h;by_cases e:i=k
 ·subst e
  refine⟨ka,kc,la,lc,?_,?_⟩
  ·simp only [hc',List.getElem_set_self]
   have l0:i*5<cur.size:=by omega
   have l1:i*5+1<cur.size:=by omega
   have l2:i*5+2<cur.size:=by omega
   have l3:i*5+3<cur.size:=by omega
   have l4:i*5+4<cur.size:=by omega
   simp [Array.getElem?_setIfInBounds,l0,l1,l2,l3,l4]
  ·rw [List.getElem_set_self];exact hy.keep hK (fun _ h _=>h)
 ·obtain⟨iD,iE,iY,iF,⟨c0,c1,c2,c3,c4⟩,hin⟩:=hi i h
  rw [hc] at c0 c1 c2 c3 c4;rw [List.getElem_set_ne (fun e'=>e e'.symm)];refine⟨iD,iE,iY,iF,?_,hin.keep hK (fun _ h _=>h)⟩;simp only [hc'];have hap:∀j,j<5->i*5+j<k*5\/k*5+5<=i*5+j:=by intro j hj;omega
  exact⟨(Du _ _ _ _ _ _ _ _ (hap 0 (by omega))).trans c0,(Du _ _ _ _ _ _ _ _ (hap 1 (by omega))).trans c1,(Du _ _ _ _ _ _ _ _ (hap 2 (by omega))).trans c2,(Du _ _ _ _ _ _ _ _ (hap 3 (by omega))).trans c3,(Du _ _ _ _ _ _ _ _ (hap 4 (by omega))).trans c4⟩
theorem af.gh {w:World} {g:Nat} {cur:Array Value} {T:TypeId} (h:af w g cur T) (a:Nat) (u0 u1 u2 u3 u4:Value):af (w.setCells g a [u0,u1,u2,u3,u4]) g (((((cur.setIfInBounds a u0).setIfInBounds (a+1) u1).setIfInBounds (a+2) u2).setIfInBounds (a+3) u3).setIfInBounds (a+4) u4) T:=
 ((((h.set a u0).set (a+1) u1).set (a+2) u2).set (a+3) u3).set (a+4) u4
theorem af.nj {w:World} {n:Nat} {vs:Array Value} {T:TypeId} (h:af w n vs T) {g:Nat} (hn:n≠g) (a:Nat) (cs:List Value):af (w.setCells g a cs) n vs T:=by
 induction cs generalizing w a with
 |nil=>exact h
 |cons c r ih=>exact ih (h.other (p:=⟨g,a,none⟩) hn c) _
theorem Held.gh {T:az} {a b:World} (h:Held T a b) {g:Nat} (hg:¬T g) (o:Nat) (cs:List Value):Held T a (b.setCells g o cs):=by
 induction cs generalizing b o with
 |nil=>exact h
 |cons c r ih=>exact ih (h.set (p:=⟨g,o,none⟩) hg c) _
theorem Ext.gh {a b:World} (h:Ext a b) {g:Nat} (hg:a.heap.size<=g) (o:Nat) (cs:List Value):Ext a (b.setCells g o cs):=by
 induction cs generalizing b o with
 |nil=>exact h
 |cons c r ih=>exact ih (h.setCell (p:=⟨g,o,none⟩) hg c) _
theorem Gp {w:World} {g:Nat} {cur:Array Value} {T:TypeId} (h:af w g cur T) {o n:Nat} (hs:o+n<=cur.size):w.there g o n:=by
 intro j hj;rw [h.cells,h.free,Array.getElem?_eq_getElem (by omega)];exact⟨rfl,rfl⟩
theorem Tryz.Gq:(prog.info? 36).map (·.size)=some 5:=by kernel_rfl
theorem V.Item.keep' {S T:az} {w w':World} {b o:Nat} {x:V} (h:V.Item w S b o x) (hT:T b) (hk:Kept T w w') (hS:∀b,S b->T b):V.Item w' S b o x:=by
 obtain⟨ka,kc,la,lc,⟨c0,c1,c2,c3,c4⟩,hin⟩:=h;exact⟨ka,kc,la,lc,⟨hk.cell hT c0,hk.cell hT c1,hk.cell hT c2,hk.cell hT c3,hk.cell hT c4⟩,hin.keep (hk.mono hS) (fun _ h _=>h)⟩
theorem V.Item.mono {S T:az} {w:World} {b o:Nat} {x:V} (h:V.Item w S b o x) (hT:∀b,S b->T b):V.Item w T b o x:=by
 obtain⟨ka,kc,la,lc,hc,hin⟩:=h;exact⟨ka,kc,la,lc,hc,hin.mono (fun b h _=>hT b h)⟩
theorem qx {w:World} {base:Nat} {F:az} {a:au} {n c:Nat} {l:List V} {xs:List Value} (hn:0<n) (hl:l.length=n) (ho:w.ownsRow base 36 5 (.slice a n c) n xs) (hc:cQ w F l xs):
 ∃g cur,a=some ⟨g,0,none⟩/\base<=g/\af w g cur 36/\n*5<=cur.size/\∀i (h:i<l.length),V.Item w F g (i*5) l[i]:=by
 obtain⟨g,cap,cur,hv,hb,hg,hnc,hcm,hcs,ht⟩:=uh ho hn;simp only [Value.slice.injEq,true_and] at hv;obtain⟨rfl,rfl⟩:=hv;have hlt:n*5<=c*5:=Nat.mul_le_mul_right _ hnc;refine⟨g,cur,rfl,hb,hg,by omega,?_⟩;intro i hi;obtain⟨ka,kc,la,lc,⟨c0,c1,c2,c3,c4⟩,hin⟩:=hc.item i hi;have hx:∀j u,xs[j]? =some u->w.cell? ⟨g,j,none⟩=some u:=by
  intro j u hj;rw [cell_of_row w g j cur _ _ hg];rw [<-ht] at hj;rw [List.getElem?_take] at hj
  split at hj
  ·simpa using hj
  ·cases hj
 exact⟨ka,kc,la,lc,⟨hx _ _ c0,hx _ _ c1,hx _ _ c2,hx _ _ c3,hx _ _ c4⟩,hin⟩
theorem Ao (a:au) (n c:Nat) (ks:List ah) (S:az) (key:ah) (w:World) (hn:ks.length=n) (hst:bR w S a ks) (hr:cz ks) (hbig:n<=1073741824):
 Calls prog 68 #[.slice a n c, .string key] w fun e w'=>e= .returned (.tuple #[.int .i64 (posOf ks key:Nat), .bool (hasB ks key)])/\Ext w w':=by
 subst hn;rcases hst with rfl|⟨b,o,rfl,hS,hc⟩
 ·refine(Any2.slices_BinarySearch_string_empty Tryz.Rw a c key w).mono ?_
  rintro e w' ⟨rfl,rfl⟩;exact⟨rfl,Ext.refl _⟩
 ·have hcs:∀j,j<ks.length->w.cell? ⟨b,o+j,none⟩=some (.string (ks.getD j ⟨#[]⟩)):=by
   intro j hj;rw [hc j hj];simp [List.getD,List.getElem?_eq_getElem hj]
  have hp:=tW ks key;have hb:Lib.bsGo (fun t=>Op.bytesLess (ks.getD t ⟨#[]⟩).toList key.toList) ks.length 0 ks.length=posOf ks key:=by
   have e:∀lo hi f,hi<=ks.length->Lib.bsGo (fun t=>Op.bytesLess (ks.getD t ⟨#[]⟩).toList key.toList) f lo hi=Lib.bsGo (fun t=>decide (t<posOf ks key)) f lo hi:=by
    intro lo hi f
    induction f generalizing lo hi with
    |zero=>intro _;rfl
    |succ f ih=>
     intro hh;unfold Lib.bsGo;by_cases hlt:lo<hi
     ·rw [if_pos hlt,if_pos hlt]
      have hm:(lo+hi)/2<ks.length:=by omega
      have:Op.bytesLess (ks.getD ((lo+hi)/2) ⟨#[]⟩).toList key.toList=decide ((lo+hi)/2<posOf ks key):=by
       have eg:ks.getD ((lo+hi)/2) ⟨#[]⟩=ks[(lo+hi)/2]:=by simp [List.getD,List.getElem?_eq_getElem hm]
       rw [eg];by_cases hp2:(lo+hi)/2<posOf ks key
       ·rw [decide_eq_true hp2];exact Qs hm hp2
       ·rw [decide_eq_false hp2];exact Qu hr hm (by omega)
      rw [this,ih _ _ hh,ih _ _ (by omega)]
     ·rw [if_neg hlt,if_neg hlt]
   rw [e _ _ _ (Nat.le_refl _)];exact Lib.bsGo_spec _ _ (fun t ht=>by simpa using ht) (fun t ht=>by simpa using ht) _ _ _ (by omega) (by omega) hp
  refine(Any2.slices_BinarySearch_string Tryz.Rw b o ks.length c (fun t=>ks.getD t ⟨#[]⟩) key w (by omega) hcs).mono ?_;rintro e w' ⟨rfl,q,rfl⟩;rw [hb];refine⟨?_,(Ext.refl w).drewN q⟩;have:decide (posOf ks key<ks.length/\ks.getD (posOf ks key) ⟨#[]⟩=key)=hasB ks key:=by
   rw [Bool.eq_iff_iff,decide_eq_true_eq,De];constructor
   ·rintro⟨h1,h2⟩
    rw [List.getElem?_eq_getElem h1];simp only [List.getD,List.getElem?_eq_getElem h1,Option.getD_some] at h2;rw [h2]
   ·intro h
    obtain⟨h1,h2⟩:=List.getElem?_eq_some_iff.1 h;exact⟨h1,by simp [List.getD,h]⟩
  rw [this]
structure cM (w:World):Prop where
 max:fZ w
 es:∃ev,w.cell? ⟨4,0,none⟩=some ev/\ (ev= .nilIface\/∃te pe,ev= .iface te pe)
 er:∃ev,w.cell? ⟨5,0,none⟩=some ev/\ (ev= .nilIface\/∃te pe,ev= .iface te pe)
 tab:Lib.TabIs prog w "internal/strconv.uint64pow10" .u64 Lib.pow10Tab
theorem Xe {P:Program} {w w':World} {name:String} {k:IntKind} {zs:List Int} (h:Lib.TabIs P w name k zs) (e:Ext w w'):Lib.TabIs P w' name k zs:=by
 unfold Lib.TabIs World.var? at*
 cases hg:P.globalNamed name with
 |none=>simp [hg] at h
 |some g=>
  simp only [hg,Option.bind_some] at h⊢;have hlt:g<w.heap.size:=by
   rcases Nat.lt_or_ge g w.heap.size with h'|h'
   ·exact h'
   ·rw [Array.getElem?_eq_none h'] at h;simp at h
  rw [Below.block e g hlt];exact h
theorem cM.ext {w w':World} (h:cM w) (e:Ext w w'):cM w':=by
 obtain⟨h1,⟨ev,h2,h2'⟩,⟨er,h3,h3'⟩,h4⟩:=h;exact⟨h1.ext e,⟨ev,e.cell h2,h2'⟩,⟨er,e.cell h3,h3'⟩,Xe h4 e⟩
theorem yu {l:List UInt8} {v:Int} (h:Lib.atoiAll l= .ok v): -9223372036854775808<=v/\v<=9223372036854775807:=by
 unfold Lib.atoiAll at h
 split at h
 ·cases h
 ·simp only at h
  split at h
  ·cases h
  ·cases h
  ·split at h
   ·cases h
   ·split at h
    ·cases h
    ·cases h
     split<;>omega
theorem tL (s:ah) (hs:s.size<=1073741824) (v:Int) (h:Lib.atoiAll s.data.toList= .ok v) (w:World):
 Calls prog 100 #[.string s] w fun e w'=>e= .returned (.tuple #[.int .i64 v, .nilIface])/\Ext w w':=by
 refine(Tryz.strconv_Atoi_ok s (by omega) v h w).mono ?_;rintro e w' ⟨rfl,h|⟨t,h⟩⟩
 ·subst h;exact⟨rfl,Ext.refl _⟩
 ·subst h;exact⟨rfl,Go.Joins.below_bytesWorld _ _ _ _ (Nat.le_refl _)⟩
theorem yw (s:ah) (hs:s.size<=1073741824) (h:∀v,Lib.atoiAll s.data.toList≠ .ok v) (w:World) (hl:cM w):
 Calls prog 100 #[.string s] w fun e w'=>∃n N,e= .returned (.tuple #[.int .i64 n, .iface 239 (.pointer (some ⟨N,0,none⟩))])/\Ext w w':=by
 obtain⟨ev,h2,h2'⟩:=hl.es;obtain⟨er,h3,h3'⟩:=hl.er
 cases hq:Lib.atoiAll s.data.toList
 ·rename_i v;exact absurd hq (h v)
 ·refine(Any.strconv_Atoi_syntax Tryz.Ji s (by omega) hq ev w h2 h2').mono ?_
  rintro e w' ⟨N,rfl,-,-,h4⟩;exact⟨_,N,rfl,h4⟩
 ·refine(Any.strconv_Atoi_range Tryz.Ji s (by omega) hq er w h3 h3').mono ?_
  rintro e w' ⟨N,rfl,-,-,h4⟩;exact⟨_,N,rfl,h4⟩
theorem ie (n:Int) (h0: -9223372036854775808<=n) (h1:n<=9223372036854775807) (q:ah) (hq:Lib.itoa n=q.data.toList) (w:World) (hl:cM w):
 Calls prog 101 #[.int .i64 n] w fun e w'=>e= .returned (.string q)/\Ext w w':=by
 refine(Tryz.strconv_Itoa n h0 h1 w hl.tab).mono ?_;rintro e w' ⟨rfl,k,os,rfl⟩;refine⟨?_,Lib.below_grow _ _ (Nat.le_refl _) _ _⟩;rw [hq]
theorem Xf (n:Nat):jC ⟨#[45]⟩ n=some n:=by unfold jC;rw [if_pos rfl]
theorem Cb (name:ah) (n:Nat) (hs:name.size<=1073741824) (hn:n<=1073741824) (w:World) (hl:cM w):
 Calls prog 69 #[.string name, .int .i64 n] w fun e w'=>e= .returned (.tuple #[.int .i64 ((jC name n).getD 0:Nat), .bool (jC name n).isSome])/\Ext w w':=by
 by_cases hd:name.data.toList= [45]
 ·obtain rfl:name=⟨#[45]⟩:=kV (by rw [ByteArray.toList_eq,ByteArray.toList_eq,hd])
  rw [Xf];go_enter func69,ntmps69;go_wp2_with fail;go_ret2;exact⟨rfl,Xt⟩
 ·have hb1:(name.toList== [45])=false:=by rw [ByteArray.toList_eq];simpa using hd
  have hb2:¬name.toList= [45]:=by rw [ByteArray.toList_eq];exact hd
  have hi:jC name n=(match Lib.atoiAll name.data.toList with| .ok k=>if name.size<=4/\0<=k/\Lib.itoa k=name.data.toList then some k.toNat else none|_=>none):=by unfold jC;rw [if_neg hd];cases Lib.atoiAll name.data.toList<;>rfl
  by_cases hok:∃v,Lib.atoiAll name.data.toList= .ok v
  ·obtain⟨v,hv⟩:=hok
   obtain⟨r0,r1⟩:=yu hv;rw [hv] at hi;simp only at hi;have Hv:=ae hv;clear hv hd;by_cases h4:name.size<=4
   ·have Xg:¬(4:Int)<(name.size:Int):=by omega
    have h4j:(name.size:Int)<=4:=by omega
    by_cases h0:0<=v
    ·obtain⟨u,rfl⟩:=Int.eq_ofNat_of_zero_le h0
     rw [Int.toNat_natCast] at hi;have Ci:¬(u:Int)<0:=by omega
     obtain⟨q,hq⟩:∃q:ah,Lib.itoa (u:Int)=q.data.toList:=⟨⟨(Lib.itoa (u:Int)).toArray⟩,rfl⟩;have Hq:=ae hq;by_cases he:q=name
     ·rw [if_pos ⟨h4,h0,by rw [hq,he]⟩] at hi
      subst he;rw [hi];clear hi hq;go_enter func69,ntmps69;go_wp2_with fail;(with_reducible refine(tL q hs (u:Int) Hv.out _).mono ?_);rintro e w1 ⟨rfl,h1⟩;obtain⟨nK,nL,iG⟩:=cp h1;(try simp at iG);have hx1:Ext w w1:=Xt;clear h1;go_wp2_with fail;(with_reducible refine(ie (u:Int) r0 r1 q Hq.out _ (hl.ext Xt)).mono ?_);rintro e w2 ⟨rfl,h2⟩;obtain⟨rK,rL,ma⟩:=cp h2;(try simp at ma);go_wp2_with fail;go_ret2;exact⟨rfl,Xt⟩
     ·rw [if_neg (fun h=>he (kV (by rw [ByteArray.toList_eq,ByteArray.toList_eq,<-hq,h.2.2])))] at hi
      have OP:(q.toList==name.toList)=false:=by simpa using fun h=>he (kV h)
      have yx:(q.toList !=name.toList)=true:=by simpa using fun h=>he (kV h)
      rw [hi];clear hi hq he;go_enter func69,ntmps69;go_wp2_with fail;(with_reducible refine(tL name hs (u:Int) Hv.out _).mono ?_);rintro e w1 ⟨rfl,h1⟩;obtain⟨nK,nL,iG⟩:=cp h1;(try simp at iG);have hx1:Ext w w1:=Xt;clear h1;go_wp2_with fail;(with_reducible refine(ie (u:Int) r0 r1 q Hq.out _ (hl.ext Xt)).mono ?_);rintro e w2 ⟨rfl,h2⟩;obtain⟨rK,rL,ma⟩:=cp h2;(try simp at ma);go_wp2_with fail;go_ret2;exact⟨rfl,Xt⟩
    ·have Ci:v<0:=by omega
     rw [if_neg (fun h=>h0 h.2.1)] at hi;rw [hi];clear hi;go_enter func69,ntmps69;go_wp2_with fail;(with_reducible refine(tL name hs v Hv.out _).mono ?_);rintro e w1 ⟨rfl,h1⟩;obtain⟨nK,nL,iG⟩:=cp h1;(try simp at iG);go_wp2_with fail;go_ret2;exact⟨rfl,Xt⟩
   ·have Xg:(4:Int)<(name.size:Int):=by omega
    rw [if_neg (fun h=>h4 h.1)] at hi;rw [hi];clear hi;go_enter func69,ntmps69;go_wp2_with fail;(with_reducible refine(tL name hs v Hv.out _).mono ?_);rintro e w1 ⟨rfl,h1⟩;obtain⟨nK,nL,iG⟩:=cp h1;(try simp at iG);go_wp2_with fail;go_ret2;exact⟨rfl,Xt⟩
  ·have hbad:∀v,Lib.atoiAll name.data.toList≠ .ok v:=fun v h=>hok ⟨v,h⟩
   have hi2:jC name n=none:=by
    rw [hi]
    cases hq:Lib.atoiAll name.data.toList
    ·rename_i v;exact absurd hq (hbad v)
    ·rfl
    ·rfl
   have rM:=ae hbad;rw [hi2];clear hi hi2 hbad hok hd;go_enter func69,ntmps69;go_wp2_with fail;(refine(yw name hs rM.out _ (hl.ext Xt)).mono ?_);rintro e w1 ⟨n1,N1,rfl,h1⟩;go_wp2_with fail;go_ret2;exact⟨rfl,Xt⟩
def OQ (r:Option Nat) (w:World) (e:Ending) (w':World):Prop:=∃q:Nat,e= .returned (.tuple #[.int .i64 q, .bool r.isSome])/\ (∀i,r=some i->q=i)/\Ext w w'
theorem uK (x:V) (ka:au) (kc:Nat) (la:au) (lc:Nat) (S:az) (name:ah) (w:World) (hx:x.sound) (hsz:x.size<=1073741824) (hs:name.size<=1073741824) (hin:x.In w S ka kc la lc) (hl:cM w):
 Calls prog 46 #[x.val ka kc la lc, .string name] w (OQ (x.child name) w):=by
 have hll:=x.kB;have hf:=hx.flat;by_cases h5:x.k=5
 ·have kA:(x.k==5)=true:=by simpa using h5
  have hlen:=hf.len h5;have bs:=fun w' (e:Ext w w')=>Ao ka x.keys.length kc x.keys S name w' rfl (((V.dz ..).1 (hin.ext e)).2.2.1) hf.dL (by omega);have Bs:=ae bs;have hc:x.child name=if hasB x.keys name=true then some (posOf x.keys name) else none:=by unfold V.child;rw [if_pos h5]
  have Hc:=ae hc;clear bs hf hc hlen h5;go_enter func46,ntmps46;go_wp2_with fail;(refine(Bs.out _ Xt).mono ?_);rintro e w1 ⟨rfl,h1⟩;go_wp2_with fail;go_ret2;refine⟨posOf x.keys name,?_,?_,Xt⟩
  ·rw [Hc.out]
   cases hasB x.keys name<;>rfl
  ·rw [Hc.out]
   intro i h
   split at h
   ·exact Option.some.inj h
   ·cases h
 ·have kA:(x.k==5)=false:=by simpa using h5
  by_cases h4:x.k=4
  ·have hk4:(x.k==4)=true:=by simpa using h4
   have hc:x.child name=(jC name x.l.length).bind fun k=>if k<x.l.length then some k else none:=by unfold V.child;rw [if_neg h5,if_pos h4]
   have Hc:=ae hc;clear hf hc h5 h4
   cases hi:jC name x.l.length with
   |none=>
    have Hi:=ae hi;have idx:=fun w' (e:Ext w w')=>Cb name x.l.length hs (by omega) w' (hl.ext e);rw [hi] at idx;have E5:=ae idx;clear hi idx;go_enter func46,ntmps46;go_wp2_with fail;(refine(E5.out _ Xt).mono ?_);rintro e w1 ⟨rfl,h1⟩;obtain⟨nK,nL,iG⟩:=cp h1;(try simp at iG);go_wp2_with fail
    go_quiet (fail)
    go_wp2_with fail;go_ret2;refine⟨0,?_,?_,Xt⟩
    ·rw [Hc.out,Hi.out];rfl
    ·rw [Hc.out,Hi.out];intro i h;cases h
   |some q=>
    have Hi:=ae hi;have idx:=fun w' (e:Ext w w')=>Cb name x.l.length hs (by omega) w' (hl.ext e);rw [hi] at idx;have E5:=ae idx;clear hi idx;by_cases hlt:q<x.l.length
    ·have dt:(q:Int)<(x.l.length:Int):=by omega
     go_enter func46,ntmps46;go_wp2_with fail;(refine(E5.out _ Xt).mono ?_);rintro e w1 ⟨rfl,h1⟩;obtain⟨nK,nL,iG⟩:=cp h1;(try simp at iG);go_wp2_with fail
     go_quiet (fail)
     go_wp2_with fail;go_ret2;refine⟨q,?_,?_,Xt⟩
     ·rw [Hc.out,Hi.out,Option.bind_some,if_pos hlt];simp
     ·rw [Hc.out,Hi.out,Option.bind_some,if_pos hlt];intro i h;exact Option.some.inj h
    ·have dt:(x.l.length:Int)<= (q:Int):=by omega
     go_enter func46,ntmps46;go_wp2_with fail;(refine(E5.out _ Xt).mono ?_);rintro e w1 ⟨rfl,h1⟩;obtain⟨nK,nL,iG⟩:=cp h1;(try simp at iG);go_wp2_with fail
     go_quiet (fail)
     go_wp2_with fail;go_ret2;refine⟨q,?_,?_,Xt⟩
     ·rw [Hc.out,Hi.out,Option.bind_some,if_neg hlt];simp
     ·rw [Hc.out,Hi.out,Option.bind_some,if_neg hlt];intro i h;cases h
  ·have hk4:(x.k==4)=false:=by simpa using h4
   have hc:x.child name=none:=by unfold V.child;rw [if_neg h5,if_neg h4]
   rw [hc];clear hf hc h5 h4;go_enter func46,ntmps46;go_wp2_with fail;go_ret2;exact⟨0,rfl,(fun i h=>by cases h),Xt⟩
end Go.Proofs.YtlcebdaghmdkeabGreatDoor
namespace Go.Proofs.YtlcebdaghmdkeabGreatDoor
abbrev Bytes:=List UInt8
def mh (n:Nat):UInt8:=if n<10 then UInt8.ofNat (48+n) else UInt8.ofNat (87+n)
def nS (c:UInt8):Bytes:=
 if c=34\/c=92 then [92,c] else if c=8 then [92,98] else if c=12 then [92,102] else if c=10 then [92,110] else if c=13 then [92,114] else if c=9 then [92,116]
 else if c.toNat<32\/c=127 then [92,117,48,48,mh (c.toNat/16),mh (c.toNat%16)] else [c]
def nT (s:Bytes):Bytes:=34::(s.flatMap nS++ [34])
def V.text:V->Bytes
 | .mk k n s ks l=>
   if k=0 then [110,117,108,108] else if k=1 then(if n=1 then [116,114,117,101] else [102,97,108,115,101]) else if k=2 then Lib.itoa n else if k=3 then nT s.data.toList
   else if k=5 then 123::(go true true ks l++ [125]) else 91::(go false true ks l++ [93])
where go:Bool->Bool->List ah->List V->Bytes
 |_,_,_, []=> []
 |o,first,ks,x::r=>(if first then [] else [44])++((if o then nT (ks.headD ⟨#[]⟩).data.toList++ [58] else [])++(V.text x++go o false ks.tail r))
def isSp (c:UInt8):Bool:=c==32||c==9||c==10||c==13
def dO (s:Bytes):Bytes:=s.dropWhile isSp
def gX (c:UInt8):Option Nat:=
 if 48<=c.toNat/\c.toNat<=57 then some (c.toNat-48) else if 97<=c.toNat/\c.toNat<=102 then some (c.toNat-87) else if 65<=c.toNat/\c.toNat<=70 then some (c.toNat-55) else none
def za (s:Bytes):Option (Nat×Bytes):=
 match s with
 |a::b::c::d::t=>(gX a).bind fun a=>(gX b).bind fun b=>(gX c).bind fun c=>(gX d).bind fun d=>some (((a*16+b)*16+c)*16+d,t)
 |_=>none
def A8 (c:UInt8):Option UInt8:=
 if c=34 then some 34 else if c=92 then some 92 else if c=47 then some 47 else if c=98 then some 8 else if c=102 then some 12 else if c=110 then some 10 else if c=114 then some 13 else if c=116 then some 9 else none
def ki (s:Bytes):Option (UInt8×Bytes):=
 match s with
 | []=>none
 |c::t=>
  match A8 c with
  |some m=>some (m,t)
  |none=>if c=117 then(za t).bind fun p=>if p.1<128 then some (UInt8.ofNat p.1,p.2) else none else none
def gN:Nat->Bytes->Bytes->Option (Bytes×Bytes)
 |0,_,_=>none
 |_+1, [],_=>none
 |f+1,c::t,b=>
  if c.toNat<32\/127<=c.toNat\/60<b.length then none
  else if c=34 then some (b,t)
  else if c=92 then(ki t).bind fun p=>gN f p.2 (b++ [p.1])
  else gN f t (b++ [c])
def gP (c:UInt8):Bool:=decide (48<=c.toNat)&&decide (c.toNat<=57)
def kL (s:Bytes):Nat:=match s with
 |45::t=>(t.takeWhile gP).length+1
 |s=>(s.takeWhile gP).length
def eG (s:Bytes):Option (Int×Bytes):=
 if 17<kL s then none else
 match Lib.atoiAll (s.take (kL s)) with
 | .ok k=>if Lib.itoa k=s.take (kL s)/\ -9007199254740992<=k/\k<=9007199254740992 then some (k,s.drop (kL s)) else none
 |_=>none
def jd (val:Bytes->Option (V×Bytes)):Nat->Bytes->List V->Option (List V×Bytes)
 |0,_,_=>none
 |g+1,s,l=>
  match dO s with
  | []=>none
  |c::t=>
   if c=93 then some (l,t)
   else(if l= [] then some (c::t) else if c=44 then some t else none).bind fun s1=>(val s1).bind fun p=>jd val g p.2 (l++ [p.1])
def kj (val:Bytes->Option (V×Bytes)) (s:Bytes):Option ((ah×V)×Bytes):=
 match dO s with
 | []=>none
 |c::t=>
  if c=34 then
   (gN (t.length+1) t []).bind fun p=>
   match dO p.2 with
   | []=>none
   |c::t=>if c=58 then(val t).map fun q=>((⟨p.1.toArray⟩,q.1),q.2) else none
  else none
def km (val:Bytes->Option (V×Bytes)):Nat->Bytes->List ah->List V->Option ((List ah×List V)×Bytes)
 |0,_,_,_=>none
 |g+1,s,ks,l=>
  match dO s with
  | []=>none
  |c::t=>
   if c=125 then some ((ks,l),t)
   else(if l= [] then some (c::t) else if c=44 then some t else none).bind fun s1=>(kj val s1).bind fun p=>
    if hasB ks p.1.1=true then none
    else km val g p.2 (ks.take (posOf ks p.1.1)++p.1.1::ks.drop (posOf ks p.1.1)) (l.take (posOf ks p.1.1)++p.1.2::l.drop (posOf ks p.1.1))
abbrev ze:V:= .mk 1 1 ⟨#[]⟩ [] []
abbrev zf:V:= .mk 1 0 ⟨#[]⟩ [] []
def cu:Nat->Bytes->Option (V×Bytes)
 |0,_=>none
 |f+1,s=>
  match dO s with
  | []=>none
  |c::t=>
   if c=110 then(if [117,108,108].isPrefixOf t=true then some (V.zero,t.drop 3) else none)
   else if c=116 then(if [114,117,101].isPrefixOf t=true then some (ze,t.drop 3) else none)
   else if c=102 then(if [97,108,115,101].isPrefixOf t=true then some (zf,t.drop 4) else none)
   else if c=34 then(gN (t.length+1) t []).map fun p=>(.mk 3 0 ⟨p.1.toArray⟩ [] [],p.2)
   else if c=45\/gP c=true then(eG (c::t)).map fun p=>(.mk 2 p.1 ⟨#[]⟩ [] [],p.2)
   else if c=91 then(jd (cu f) (t.length+1) t []).map fun p=>(.mk 4 0 ⟨#[]⟩ [] p.1,p.2)
   else if c=123 then(km (cu f) (t.length+1) t [] []).map fun p=>(.mk 5 0 ⟨#[]⟩ p.1.1 p.1.2,p.2)
   else none
def Dn (s:Bytes):Option V:=(cu 12 s).bind fun p=>if dO p.2= []/\p.1.fine=true then some p.1 else none
def dQ (s:Bytes):V×Int:=if 2000<s.length then(V.zero,2) else match Dn s with|some v=>(v,0)|none=>(V.zero,1)
def lv (x:V):Bytes×Int:=if x.fine=false then([],1) else if 2000<x.text.length then([],2) else(x.text,0)
theorem ZX {s:Bytes} {v:V} (h:Dn s=some v):v.fine=true:=by
 unfold Dn at h
 cases hv:cu 12 s with
 |none=>rw [hv] at h;cases h
 |some p=>
  rw [hv] at h;simp only [Option.bind_some] at h
  split at h
  ·rename_i hc;cases h;exact hc.2
  ·cases h
theorem ng (s:Bytes):(dO s).length<=s.length:=(List.dropWhile_sublist _).length_le
theorem F9 {s:Bytes} {p:UInt8×Bytes} (h:ki s=some p):p.2.length<s.length:=by
 unfold ki at h
 split at h
 ·cases h
 ·split at h
  ·cases h;simp
  ·split at h
   ·unfold za at h
    split at h
    ·rename_i a b c d t'
     cases ha:gX a with
     |none=>rw [ha] at h;cases h
     |some a=>cases hb:gX b with
      |none=>rw [ha,hb] at h;cases h
      |some b=>cases hc:gX c with
       |none=>rw [ha,hb,hc] at h;cases h
       |some c=>cases hd:gX d with
        |none=>rw [ha,hb,hc,hd] at h;cases h
        |some d=>
         rw [ha,hb,hc,hd] at h;simp only [Option.bind_some] at h
         split at h
         ·cases h;simp;omega
         ·cases h
    ·cases h
   ·cases h
theorem Dp:∀(f:Nat) (s b:Bytes) (p:Bytes×Bytes),gN f s b=some p->p.2.length<s.length
 |0,_,_,_,h=>by cases h
 |_+1, [],_,_,h=>by cases h
 |f+1,c::t,b,p,h=>by
  rw [gN] at h
  split at h
  ·cases h
  ·split at h
   ·cases h;simp
   ·split at h
    ·cases he:ki t with
     |none=>rw [he] at h;cases h
     |some q=>
      rw [he] at h;have h1:=F9 he;have h2:=Dp f _ _ _ h;simp only [List.length_cons];omega
    ·have h2:=Dp f _ _ _ h
     simp only [List.length_cons];omega
theorem Q5 {s:Bytes} {p:Int×Bytes} (h:eG s=some p):p.2.length<=s.length/\ (0<kL s->s≠ []->p.2.length<s.length):=by
 unfold eG at h
 split at h
 ·cases h
 ·split at h
  ·split at h
   ·cases h
    refine⟨by simp,fun h0 h1=> ?_⟩;have:=List.length_pos_iff.2 h1;simp;omega
   ·cases h
  ·cases h
theorem KP {val:Bytes->Option (V×Bytes)} (hv:∀s p,val s=some p->p.2.length<s.length):∀(g:Nat) (s:Bytes) (l:List V) (p:List V×Bytes),jd val g s l=some p->p.2.length<s.length
 |0,_,_,_,h=>by cases h
 |g+1,s,l,p,h=>by
  rw [jd] at h;have hs:=ng s
  split at h
  ·cases h
  ·rename_i c t he
   rw [he] at hs;simp only [List.length_cons] at hs
   split at h
   ·cases h;simp only;omega
   ·split at h
    ·simp only [Option.bind_some] at h
     cases hq:val (c::t) with
     |none=>rw [hq] at h;cases h
     |some q=>
      rw [hq] at h;have h1:=hv _ _ hq;have h2:=KP hv g _ _ _ h;simp only [List.length_cons] at h1;omega
    ·split at h
     ·simp only [Option.bind_some] at h
      cases hq:val t with
      |none=>rw [hq] at h;cases h
      |some q=>
       rw [hq] at h;have h1:=hv _ _ hq;have h2:=KP hv g _ _ _ h;omega
     ·cases h
theorem KQ {val:Bytes->Option (V×Bytes)} (hv:∀s p,val s=some p->p.2.length<s.length) {s:Bytes} {p:(ah×V)×Bytes} (h:kj val s=some p):p.2.length<s.length:=by
 unfold kj at h;have hs:=ng s
 split at h
 ·cases h
 ·rename_i c t he
  rw [he] at hs;simp only [List.length_cons] at hs
  split at h
  ·cases hq:gN (t.length+1) t [] with
   |none=>rw [hq] at h;cases h
   |some q=>
    rw [hq] at h;simp only [Option.bind_some] at h;have h1:=Dp _ _ _ _ hq;have h2:=ng q.2
    split at h
    ·cases h
    ·rename_i c' t' he'
     rw [he'] at h2;simp only [List.length_cons] at h2
     split at h
     ·cases hr:val t' with
      |none=>rw [hr] at h;cases h
      |some r=>
       rw [hr] at h;have h3:=hv _ _ hr
       cases h
       simp only;omega
     ·cases h
  ·cases h
theorem Q6 {val:Bytes->Option (V×Bytes)} (hv:∀s p,val s=some p->p.2.length<s.length):∀(g:Nat) (s:Bytes) (ks:List ah) (l:List V) (p:(List ah×List V)×Bytes),km val g s ks l=some p->p.2.length<s.length
 |0,_,_,_,_,h=>by cases h
 |g+1,s,ks,l,p,h=>by
  rw [km] at h;have hs:=ng s
  split at h
  ·cases h
  ·rename_i c t he
   rw [he] at hs;simp only [List.length_cons] at hs
   split at h
   ·cases h;simp only;omega
   ·have aux:∀s1:Bytes,s1.length<=t.length+1-> ((kj val s1).bind fun p=>if hasB ks p.1.1=true then none else km val g p.2 (ks.take (posOf ks p.1.1)++p.1.1::ks.drop (posOf ks p.1.1)) (l.take (posOf ks p.1.1)++p.1.2::l.drop (posOf ks p.1.1)))=some p->p.2.length<s.length:=by
     intro s1 h1 h
     cases hq:kj val s1 with
     |none=>rw [hq] at h;cases h
     |some q=>
      rw [hq] at h;simp only [Option.bind_some] at h
      split at h
      ·cases h
      ·have h2:=KQ hv hq
       have h3:=Q6 hv g _ _ _ _ h;omega
    split at h
    ·exact aux _ (by simp) h
    ·split at h
     ·exact aux _ (by omega) h
     ·cases h
theorem Q7 {c:UInt8} {t:Bytes} (h:c=45\/gP c=true):0<kL (c::t):=by
 unfold kL
 split
 ·omega
 ·rename_i hne
  rcases h with rfl|h
  ·exact absurd rfl (hne t)
  ·rw [List.takeWhile_cons,if_pos h];simp
theorem A9:∀(f:Nat) (s:Bytes) (p:V×Bytes),cu f s=some p->p.2.length<s.length
 |0,_,_,h=>by cases h
 |f+1,s,p,h=>by
  rw [cu] at h;have hs:=ng s
  split at h
  ·cases h
  ·rename_i c t he
   rw [he] at hs;simp only [List.length_cons] at hs
   repeat (split at h;rotate_left)
   all_goals first
    |(cases h;done)
    |(split at h;(first|(cases h;simp only [List.length_drop];omega)|cases h);(first|(cases h;done)|skip))
    |skip
   ·simp only [Option.map_eq_some_iff] at h
    obtain⟨q,hq,rfl⟩:=h;have:=Dp _ _ _ _ hq;simp only;omega
   ·rename_i hd
    simp only [Option.map_eq_some_iff] at h;obtain⟨q,hq,rfl⟩:=h;have:=(Q5 hq).2 (Q7 hd) (by simp);simp only [List.length_cons] at this⊢;omega
   ·simp only [Option.map_eq_some_iff] at h
    obtain⟨q,hq,rfl⟩:=h;have:=KP (A9 f) _ _ _ _ hq;simp only;omega
   ·simp only [Option.map_eq_some_iff] at h
    obtain⟨q,hq,rfl⟩:=h;have:=Q6 (A9 f) _ _ _ _ _ hq;simp only;omega
example:(dQ [32,123,34,98,34,58,32,91,49,44,32,110,117,108,108,93,125]).2=0:=by decide+kernel
theorem KR:∀(k u:Nat),u<10^ (k+1)->Lib.nDigits u<=k+1
 |0,u,h=>by rw [Lib.nDigits_small (by simpa using h)];omega
 |k+1,u,h=>by
  by_cases hu:u<10
  ·rw [Lib.nDigits_small hu];omega
  ·rw [Lib.nDigits_big hu]
   have:=KR k (u/10) (by rw [Nat.pow_succ] at h;omega);omega
theorem ZY {c:UInt8}:gP c=true↔48<=c.toNat/\c.toNat<=57:=by simp [gP]
def Stop (s:Bytes):Prop:=∀c t,s=c::t->gP c=false
theorem ZZ {n:Int} (h0: -9007199254740992<=n) (h1:n<=9007199254740992):(Lib.itoa n).length<=17:=by
 unfold Lib.itoa
 split
 ·rw [List.length_cons,Lib.decDigits_length]
  have:=KR 15 n.natAbs (by omega);omega
 ·rw [Lib.decDigits_length]
  have:=KR 15 n.toNat (by omega);omega
theorem KS (c:UInt8):UInt8.ofNat c.toNat=c:=by apply UInt8.toNat_inj.1;simp
theorem Q8 {s:ah} (h:fU s=true):(∀c∈s.data.toList,c.toNat<128)/\s.data.toList.length<=60:=by
 simp only [fU,Bool.and_eq_true,List.all_eq_true,decide_eq_true_eq] at h;refine⟨fun c hc=>by have:=h.1 c hc;omega,?_⟩;have e:s.data.toList.length=s.size:=Array.length_toList;omega
theorem Z0 {c:UInt8} (h:c=45\/gP c=true):isSp c=false/\c≠93/\c≠125/\c≠44/\c≠110/\c≠116/\c≠102/\c≠34:=by
 rcases h with rfl|h
 ·decide
 ·rw [ZY] at h
  have hn:∀d:UInt8,(d.toNat<48\/57<d.toNat)->c≠d:=fun d hd e=>by subst e;omega
  have e1:=hn 32 (by decide);have e2:=hn 9 (by decide);have e3:=hn 10 (by decide);have e4:=hn 13 (by decide);exact⟨by simp [isSp,e1,e2,e3,e4],hn _ (by decide),hn _ (by decide),hn _ (by decide),hn _ (by decide),hn _ (by decide),hn _ (by decide),hn _ (by decide)⟩
theorem zg (x:V):x.text=if x.k=0 then [110,117,108,108] else if x.k=1 then(if x.n=1 then [116,114,117,101] else [102,97,108,115,101]) else if x.k=2 then Lib.itoa x.n else if x.k=3 then nT x.s.data.toList
 else if x.k=5 then 123::(V.text.go true true x.keys x.l++ [125]) else 91::(V.text.go false true x.keys x.l++ [93]):=by
 cases x with|mk k n s ks l=>rw [V.text];rfl
theorem KT (o first:Bool) (ks:List ah):V.text.go o first ks []= []:=by cases o<;>cases first<;>rfl
theorem Q9 (o first:Bool) (ks:List ah) (x:V) (r:List V):V.text.go o first ks (x::r)=(if first then [] else [44])++((if o then nT (ks.headD ⟨#[]⟩).data.toList++ [58] else [])++(x.text++V.text.go o false ks.tail r)):=by rw [V.text.go]
theorem KU:∀(f f':Nat) (s b:Bytes),s.length<f->s.length<f'->gN f s b=gN f' s b
 |0,_,_,_,h,_=>absurd h (Nat.not_lt_zero _)
 |_,0,_,_,_,h=>absurd h (Nat.not_lt_zero _)
 |f+1,f'+1, [],b,_,_=>rfl
 |f+1,f'+1,c::t,b,h,h'=>by
  simp only [List.length_cons] at h h';rw [gN,gN]
  split
  ·rfl
  ·split
   ·rfl
   ·split
    ·cases he:ki t with
     |none=>rfl
     |some p=>
      have:=F9 he;simp only [Option.bind_some];exact KU f f' _ _ (by omega) (by omega)
    ·exact KU f f' _ _ (by omega) (by omega)
def Ra (val:Bytes->Option (V×Bytes)):Prop:=∀s p,val s=some p->p.2.length<s.length
theorem Rb {val:Bytes->Option (V×Bytes)} (hv:Ra val):∀(f f':Nat) (s:Bytes) (l:List V),s.length<f->s.length<f'->jd val f s l=jd val f' s l
 |0,_,_,_,h,_=>absurd h (Nat.not_lt_zero _)
 |_,0,_,_,_,h=>absurd h (Nat.not_lt_zero _)
 |f+1,f'+1,s,l,h,h'=>by
  rw [jd,jd];have hs:=ng s
  split
  ·rfl
  ·rename_i c t he
   rw [he] at hs;simp only [List.length_cons] at hs
   split
   ·rfl
   ·have aux:∀s1:Bytes,s1.length<=t.length+1-> ((val s1).bind fun p=>jd val f p.2 (l++ [p.1]))=((val s1).bind fun p=>jd val f' p.2 (l++ [p.1])):=by
     intro s1 h1
     cases hq:val s1 with
     |none=>rfl
     |some q=>
      have h2:=hv _ _ hq;simp only [Option.bind_some];exact Rb hv f f' _ _ (by omega) (by omega)
    split
    ·exact aux _ (by simp)
    ·split
     ·exact aux _ (by omega)
     ·rfl
theorem Rc {val:Bytes->Option (V×Bytes)} (hv:Ra val):∀(f f':Nat) (s:Bytes) (ks:List ah) (l:List V),s.length<f->s.length<f'->km val f s ks l=km val f' s ks l
 |0,_,_,_,_,h,_=>absurd h (Nat.not_lt_zero _)
 |_,0,_,_,_,_,h=>absurd h (Nat.not_lt_zero _)
 |f+1,f'+1,s,ks,l,h,h'=>by
  rw [km,km];have hs:=ng s
  split
  ·rfl
  ·rename_i c t he
   rw [he] at hs;simp only [List.length_cons] at hs
   split
   ·rfl
   ·have aux:∀s1:Bytes,s1.length<=t.length+1-> ((kj val s1).bind fun p=>if hasB ks p.1.1=true then none else km val f p.2 (ks.take (posOf ks p.1.1)++p.1.1::ks.drop (posOf ks p.1.1)) (l.take (posOf ks p.1.1)++p.1.2::l.drop (posOf ks p.1.1)))=((kj val s1).bind fun p=>if hasB ks p.1.1=true then none else km val f' p.2 (ks.take (posOf ks p.1.1)++p.1.1::ks.drop (posOf ks p.1.1)) (l.take (posOf ks p.1.1)++p.1.2::l.drop (posOf ks p.1.1))):=by
     intro s1 h1
     cases hq:kj val s1 with
     |none=>rfl
     |some q=>
      have h2:=KQ hv hq;simp only [Option.bind_some]
      split
      ·rfl
      ·exact Rc hv f f' _ _ _ (by omega) (by omega)
    split
    ·exact aux _ (by simp)
    ·split
     ·exact aux _ (by omega)
     ·rfl
theorem Ga:∀(f:Nat) (s b:Bytes) (p:Bytes×Bytes),gN f s b=some p->p.1.length+p.2.length+1<=s.length+b.length
 |0,_,_,_,h=>by cases h
 |_+1, [],_,_,h=>by cases h
 |f+1,c::t,b,p,h=>by
  rw [gN] at h
  split at h
  ·cases h
  ·split at h
   ·cases h;simp;omega
   ·split at h
    ·cases he:ki t with
     |none=>rw [he] at h;cases h
     |some q=>
      rw [he] at h;have h1:=F9 he;have h2:=Ga f _ _ _ h;simp only [List.length_cons,List.length_append,List.length_nil] at*;omega
    ·have h2:=Ga f _ _ _ h
     simp only [List.length_cons,List.length_append,List.length_nil] at*;omega
def Gb (val:Bytes->Option (V×Bytes)):Prop:=∀s p,val s=some p->p.1.size+p.2.length<=s.length
theorem Re {val:Bytes->Option (V×Bytes)} (hv:Gb val):∀(g:Nat) (s:Bytes) (l:List V) (p:List V×Bytes),jd val g s l=some p-> (p.1.map V.size).sum+p.2.length+1<=s.length+(l.map V.size).sum
 |0,_,_,_,h=>by cases h
 |g+1,s,l,p,h=>by
  rw [jd] at h;have hs:=ng s
  split at h
  ·cases h
  ·rename_i c t he
   rw [he] at hs;simp only [List.length_cons] at hs
   split at h
   ·cases h;simp only;omega
   ·have aux:∀s1:Bytes,s1.length<=t.length+1-> ((val s1).bind fun p=>jd val g p.2 (l++ [p.1]))=some p-> (p.1.map V.size).sum+p.2.length+1<=s.length+(l.map V.size).sum:=by
     intro s1 h1 h
     cases hq:val s1 with
     |none=>rw [hq] at h;cases h
     |some q=>
      rw [hq] at h;have h2:=hv _ _ hq;have h3:=Re hv g _ _ _ h;simp only [List.map_append,List.sum_append,List.map_cons,List.map_nil,List.sum_cons,List.sum_nil] at h3;omega
    split at h
    ·exact aux _ (by simp) h
    ·split at h
     ·exact aux _ (by omega) h
     ·cases h
theorem Z1 {val:Bytes->Option (V×Bytes)} (hv:Gb val) {s:Bytes} {p:(ah×V)×Bytes} (h:kj val s=some p):p.1.1.size+1+p.1.2.size+p.2.length<=s.length:=by
 unfold kj at h;have hs:=ng s
 split at h
 ·cases h
 ·rename_i c t he
  rw [he] at hs;simp only [List.length_cons] at hs
  split at h
  ·cases hq:gN (t.length+1) t [] with
   |none=>rw [hq] at h;cases h
   |some q=>
    rw [hq] at h;simp only [Option.bind_some] at h;have h1:=Ga _ _ _ _ hq;have h2:=ng q.2
    split at h
    ·cases h
    ·rename_i c' t' he'
     rw [he'] at h2;simp only [List.length_cons,List.length_nil] at h1 h2
     split at h
     ·cases hr:val t' with
      |none=>rw [hr] at h;cases h
      |some r=>
       rw [hr] at h;have h3:=hv _ _ hr
       cases h
       simp only [ByteArray.size,List.size_toArray];omega
     ·cases h
  ·cases h
theorem Rf {α:Type} (f:α->Nat) (l:List α) (k:Nat) (x:α):((l.take k++x::l.drop k).map f).sum=(l.map f).sum+f x:=by
 have h:(l.map f).sum=((l.take k).map f).sum+((l.drop k).map f).sum:=by rw [<-List.sum_append,<-List.map_append,List.take_append_drop]
 simp only [List.map_append,List.map_cons,List.sum_append,List.sum_cons];omega
theorem Rg {val:Bytes->Option (V×Bytes)} (hv:Gb val):∀(g:Nat) (s:Bytes) (ks:List ah) (l:List V) (p:(List ah×List V)×Bytes),km val g s ks l=some p->ft p.1.1+(p.1.2.map V.size).sum+p.2.length+1<=s.length+ft ks+(l.map V.size).sum
 |0,_,_,_,_,h=>by cases h
 |g+1,s,ks,l,p,h=>by
  rw [km] at h;have hs:=ng s
  split at h
  ·cases h
  ·rename_i c t he
   rw [he] at hs;simp only [List.length_cons] at hs
   split at h
   ·cases h;simp only;omega
   ·have aux:∀s1:Bytes,s1.length<=t.length+1-> ((kj val s1).bind fun p=>if hasB ks p.1.1=true then none else km val g p.2 (ks.take (posOf ks p.1.1)++p.1.1::ks.drop (posOf ks p.1.1)) (l.take (posOf ks p.1.1)++p.1.2::l.drop (posOf ks p.1.1)))=some p->ft p.1.1+(p.1.2.map V.size).sum+p.2.length+1<=s.length+ft ks+(l.map V.size).sum:=by
     intro s1 h1 h
     cases hq:kj val s1 with
     |none=>rw [hq] at h;cases h
     |some q=>
      rw [hq] at h;simp only [Option.bind_some] at h
      split at h
      ·cases h
      ·have h2:=Z1 hv hq
       have h3:=Rg hv g _ _ _ _ h;unfold ft at*;rw [Rf,Rf] at h3;omega
    split at h
    ·exact aux _ (by simp) h
    ·split at h
     ·exact aux _ (by omega) h
     ·cases h
theorem KV:∀(f:Nat),Gb (cu f)
 |0,_,_,h=>by cases h
 |f+1,s,p,h=>by
  rw [cu] at h;have hs:=ng s
  split at h
  ·cases h
  ·rename_i c t he
   rw [he] at hs;simp only [List.length_cons] at hs;have hz:V.zero.size=1:=by rw [V.size_eq];rfl
   have ht:ze.size=1:=by rw [V.size_eq];rfl
   have hf:zf.size=1:=by rw [V.size_eq];rfl
   repeat (split at h;rotate_left)
   all_goals first
    |(cases h;done)
    |(split at h;(first|(cases h;simp only [List.length_drop,hz,ht,hf];omega)|cases h);(first|(cases h;done)|skip))
    |skip
   ·simp only [Option.map_eq_some_iff] at h
    obtain⟨q,hq,rfl⟩:=h;have:=Ga _ _ _ _ hq;rw [V.size_eq];simp only [V.kz,V.gi,V.dZ,ByteArray.size,List.size_toArray,ft,List.map_nil,List.sum_nil,List.length_nil] at*;omega
   ·rename_i hd
    simp only [Option.map_eq_some_iff] at h;obtain⟨q,hq,rfl⟩:=h;have:=(Q5 hq).2 (Q7 hd) (by simp);rw [V.size_eq];simp only [V.kz,V.gi,V.dZ,ft,List.map_nil,List.sum_nil,List.length_cons,show (⟨#[]⟩:ah).size=0 from rfl] at*;omega
   ·simp only [Option.map_eq_some_iff] at h
    obtain⟨q,hq,rfl⟩:=h;have:=Re (KV f) _ _ _ _ hq;rw [V.size_eq];simp only [V.kz,V.gi,V.dZ,ft,List.map_nil,List.sum_nil,show (⟨#[]⟩:ah).size=0 from rfl] at*;omega
   ·simp only [Option.map_eq_some_iff] at h
    obtain⟨q,hq,rfl⟩:=h;have:=Rg (KV f) _ _ _ _ _ hq;rw [V.size_eq];simp only [V.kz,V.gi,V.dZ,ft,List.map_nil,List.sum_nil,show (⟨#[]⟩:ah).size=0 from rfl] at*;omega
end Go.Proofs.YtlcebdaghmdkeabGreatDoor
namespace Go.Proofs.YtlcebdaghmdkeabGreatDoor
open Go.Proofs.Tryz
open Go.RowKit
theorem Tryz.Jb:(prog.info? 5).map (fun i=>(i.zero,i.size,i.bytes))=some (some (.int .u8 0),1,1):=by kernel_rfl
def dn (w:World) (B:Nat) (v:Value) (l:Bytes):Prop:=w.ownsRow B 5 1 v l.length (Lib.byteCells l)
structure Wrote (B:Nat) (w w':World):Prop where
 below:Below B w w'
 others:Lib.OthersKept 5 none w w'
theorem Wrote.refl (B:Nat) (w:World):Wrote B w w:=⟨Below.refl _ _,Lib.OthersKept.refl _ _ _⟩
theorem Wrote.trans {B:Nat} {a b c:World} (h:Wrote B a b) (k:Wrote B b c):Wrote B a c:=⟨h.below.trans k.below,h.others.trans k.others⟩
theorem W6 {b c:World} (e:Ext b c):Lib.OthersKept 5 none b c:=by
 intro k o hk _ _;rw [Below.block e k (Array.getElem?_eq_some_iff.1 hk).1];exact hk
theorem Wrote.ext {B:Nat} {a b c:World} (h:Wrote B a b) (hB:B<=a.heap.size) (e:Ext b c):Wrote B a c:=
 ⟨h.below.trans (Below.mono e (Nat.le_trans hB (Below.size h.below))),h.others.trans (W6 e)⟩
theorem Wrote.size {B:Nat} {a b:World} (h:Wrote B a b):a.heap.size<=b.heap.size:=Below.size h.below
theorem af.wrote {B:Nat} {w w':World} {n:Nat} {vs:Array Value} {T:TypeId} (e:Wrote B w w') (h:af w n vs T) (hT:T≠5):af w' n vs T:=
 e.others n _ h (by simp) (fun c fz he=>hT (by cases he;rfl))
theorem Aj {w:World} {B:Nat} {v:Value} {n:Nat} {xs:List Value} {e s:Nat} (h:w.ownsRow B e s v n xs):∀g,v.ownBlock=some g->∃c fz,w.heap[g]? =some (.cells c e fz):=by
 intro g hg;rcases h.2 with⟨rfl,-⟩|⟨g',cap,cur,rfl,-,hgg,-⟩
 ·simp [Value.ownBlock] at hg
 ·simp [Value.ownBlock] at hg
  subst hg;exact⟨cur,_,hgg⟩
theorem Wrote.grown {B:Nat} {a w w':World} (h:Wrote B a w) (hB:B<=a.heap.size) {v:Value} {n:Nat} {xs:List Value} (hown:w.ownsRow B 5 1 v n xs) (g:w.grownBy w' v.ownBlock):Wrote B a w':=
 ⟨Below.grown h.below g (Nat.le_trans hB h.size) (fun k hk=>(hown.lt k hk).1),h.others.grown g (Aj hown)⟩
theorem dn.nil (w:World) (B:Nat):dn w B (.slice none 0 0) []:=World.ownsRow_nil _ _ _ _
theorem dn.ext {w w':World} {B:Nat} {v:Value} {l:Bytes} (h:dn w B v l) (e:Ext w w'):dn w' B v l:=eD h e
theorem dn.form {w:World} {B:Nat} {v:Value} {l:Bytes} (h:dn w B v l):∃a c,v= .slice a l.length c/\aM a l.length c:=fT h
theorem byteCells_one (l:Bytes):∀u∈Lib.byteCells l,u.oneCell'=true:=by
 intro u hu;simp only [Lib.byteCells,List.mem_map] at hu;obtain⟨b,-,rfl⟩:=hu;rfl
theorem nH {w:World} {ops:Array Oper} {rest:List Oper} {o:Oper} {a:Act} {Q:Exit->Act->World->Prop} (hgd:o.guard=none) (s x:Operand) (t:TypeId)
 (ho:o.op= .call {callee:= .builtin .append,args:= #[s,x],argTypes:= #[t,t]}) (ht:prog.underlying t=some (.slice 5))
 (B:Nat) (v:Value) (l:Bytes) (hs:a.eval s=v) (hown:dn w B v l) (ad:Addr) (m c:Nat) (news:Bytes) (hx:a.eval x= .slice (some ad) m c) (hm:news.length=m)
 (hnews:∀j u,(Lib.byteCells news)[j]? =some u->w.cell? (ad.add j)=some u) (hlim:l.length+m<=140737488355328) (hB:B<=w.heap.size)
 (h:∀v' w',dn w' B v' (l++news)->w.grownBy w' v.ownBlock->wpList prog ops Q rest (a.put o.dst v') w'):wpList prog ops Q (o::rest) a w:=by
 obtain⟨i0,hi,hz0,hz1,hz2⟩:=info_parts Tryz.Jb;refine wpList_append_own _ hgd s x t ho B 5 i0 _ 1 1 ht hi hz0 hz1 hz2 rfl (by decide) v l.length _ hs hown ad m c (Lib.byteCells news) hx (by rw [Lib.byteCells_length,hm];omega) hnews (byteCells_one _) (by unfold maxLen;omega) (by omega) hB ?_;intro v' w' h1 h2 _;refine h v' w' ?_ h2;unfold dn;rw [List.length_append,Lib.byteCells_append,hm];exact h1
theorem tK {w:World} {ops:Array Oper} {rest:List Oper} {o:Oper} {a:Act} {Q:Exit->Act->World->Prop} (hgd:o.guard=none) (sl x:Operand) (t u:TypeId)
 (ho:o.op= .call {callee:= .builtin .append,args:= #[sl,x],argTypes:= #[t,u]}) (ht:prog.underlying t=some (.slice 5)) (hu:prog.underlying u=some .string)
 (B:Nat) (v:Value) (l:Bytes) (hs:a.eval sl=v) (hown:dn w B v l) (s:ah) (hx:a.eval x= .string s) (hlim:l.length+s.size<=140737488355328) (hB:B<=w.heap.size)
 (h:∀v' w',dn w' B v' (l++s.data.toList)->w.grownBy w' v.ownBlock->wpList prog ops Q rest (a.put o.dst v') w'):wpList prog ops Q (o::rest) a w:=by
 obtain⟨i0,hi,hz0,hz1,hz2⟩:=info_parts Tryz.Jb;refine Lib.wpList_append_own_string _ hgd sl x t u ho B 5 i0 ht hu hi hz0 hz1 hz2 v l.length _ hs hown s hx (by unfold maxLen;omega) hlim hB ?_;intro v' w' h1 h2 _;refine h v' w' ?_ h2;unfold dn;rw [List.length_append,Lib.byteCells_append,Array.length_toList];exact h1
theorem OJ {w:World} {ops:Array Oper} {o:Oper} {a:Act} {K:Act->World->Prop} {Q:Exit->Act->World->Prop} {E:Prop} (hgd:o.guard=none) (s x:Operand) (t:TypeId)
 (ho:o.op= .call {callee:= .builtin .append,args:= #[s,x],argTypes:= #[t,t]}) (ht:prog.underlying t=some (.slice 5))
 (B:Nat) (v:Value) (l:Bytes) (hs:a.eval s=v) (hown:dn w B v l) (ad:Addr) (m c:Nat) (news:Bytes) (hx:a.eval x= .slice (some ad) m c) (hm:news.length=m) (hm0:0<m)
 (hnews:∀j u,(Lib.byteCells news)[j]? =some u->w.cell? (ad.add j)=some u) (hlim:l.length+m<=140737488355328) (hB:B<=w.heap.size)
 (h:∀g cap w',dn w' B (.slice (some ⟨g,0,none⟩) (l.length+m) cap) (l++news)->w.grownBy w' v.ownBlock->K (a.put o.dst (.slice (some ⟨g,0,none⟩) (l.length+m) cap)) w'):
 if Region.wanted o (yielded ops a.tmps)=true then Oper.wp prog o a w K Q else E:=by
 obtain⟨i0,hi,hz0,hz1,hz2⟩:=info_parts Tryz.Jb;refine step_append_lies _ hgd s x t ho B 5 i0 _ 1 1 ht hi hz0 hz1 hz2 rfl (by decide) v l.length _ hs hown ad m c (Lib.byteCells news) hx (by rw [Lib.byteCells_length,hm];omega) hnews (byteCells_one _) hm0 (by unfold maxLen;omega) (by omega) hB _ rfl ?_;intro g cap w' h1 h2 _ _;refine h g cap w' ?_ h2;unfold dn;rw [List.length_append,Lib.byteCells_append,hm];exact h1
end Go.Proofs.YtlcebdaghmdkeabGreatDoor
namespace Go.Proofs.YtlcebdaghmdkeabGreatDoor
open Go.RowKit
def qN (w:World) (base:Nat) (S:az) (v:Value) (n:Nat) (l:List V):Prop:=
 l.length=n/\∃xs,w.ownsRow base 36 5 v n xs/\cQ w (fun b=>b<base/\S b) l xs
theorem qN.nil (w:World) (base:Nat) (S:az):qN w base S (.slice none 0 0) 0 []:=⟨rfl, [],World.ownsRow_nil _ _ _ _,rfl⟩
theorem qN.keep {w w':World} {base:Nat} {S:az} {v:Value} {n:Nat} {l:List V} (h:qN w base S v n l) (e:∀b,b<w.heap.size-> (b<base/\S b)\/v.ownBlock=some b->w'.heap[b]? =w.heap[b]?):qN w' base S v n l:=by
 obtain⟨h0,xs,h1,h2⟩:=h;exact⟨h0,xs,dX h1 (fun b hb he=>e b hb (.inr he)),h2.keep (fun b hb hl=>e b hl (.inl hb)) (fun _ h _=>h)⟩
theorem qN.ext {w w':World} {base:Nat} {S:az} {v:Value} {n:Nat} {l:List V} (h:qN w base S v n l) (e:Ext w w'):qN w' base S v n l:=h.keep (fun b hb _=>Below.block e b hb)
theorem qN.push {w w1:World} {base:Nat} {S:az} {v':Value} {n:Nat} {l:List V} {xs:List Value} (h0:l.length=n) (hc:cQ w (fun b=>b<base/\S b) l xs)
 {x:V} {ka:au} {kc:Nat} {la:au} {lc:Nat} (hx:x.In w (fun b=>b<base/\S b) ka kc la lc)
 (hown:w1.ownsRow base 36 5 v' (n+1) (xs++ [.int .i64 x.k, .int .i64 x.n, .string x.s, .slice ka x.keys.length kc, .slice la x.l.length lc])) (hk:Kept (fun b=>b<base/\S b) w w1):qN w1 base S v' (n+1) (l++ [x]):=
 ⟨by simp [h0],_,hown,(hc.keep hk (fun _ h _=>h)).snoc (hx.keep hk (fun _ h _=>h))⟩
theorem qN.lt {w:World} {base:Nat} {S:az} {v:Value} {n:Nat} {l:List V} (h:qN w base S v n l):∀g,v.ownBlock=some g->base<=g/\g<w.heap.size:=by
 obtain⟨_,xs,h1,_⟩:=h;exact h1.lt
theorem ek.lt {w:World} {base:Nat} {v:Value} {n:Nat} {ks:List ah} (h:ek w base v n ks):∀g,v.ownBlock=some g->base<=g/\g<w.heap.size:=h.2.lt
theorem ek.keep {w w':World} {base:Nat} {v:Value} {n:Nat} {ks:List ah} (h:ek w base v n ks) (e:∀b,b<w.heap.size->v.ownBlock=some b->w'.heap[b]? =w.heap[b]?):ek w' base v n ks:=⟨h.1,dX h.2 e⟩
theorem ek.push {w1:World} {base:Nat} {v':Value} {n:Nat} {ks:List ah} {k:ah} (h0:ks.length=n) (hown:w1.ownsRow base 9 1 v' (n+1) (ks.map Value.string++ [.string k])):ek w1 base v' (n+1) (ks++ [k]):=
 ⟨by simp [h0],by simpa using hown⟩
end Go.Proofs.YtlcebdaghmdkeabGreatDoor
