import Derived.Test.YtlcebdaghmdkeabGreatDoorZ15
import Derived.Test.YtlcebdaghmdkeabGreatDoorZ17
set_option linter.all false
set_option maxRecDepth 100000
set_option maxHeartbeats 64000000
namespace Go.Proofs.YtlcebdaghmdkeabGreatDoor
open Go.Proofs.Tryz
open Go.RowKit
attribute [local go_sem↓] Go.wp_at_zero Go.wp_at_succ
theorem U0:∀a b:List UInt8,Lib.compareBytes a b=0↔a=b
 | [], []=>by simp [Lib.compareBytes]
 | [],_::_=>by simp [Lib.compareBytes]
 |_::_, []=>by simp [Lib.compareBytes]
 |x::a,y::b=>by
  rw [Lib.compareBytes];have ih:=U0 a b;by_cases h1:x<y
  ·have h3:x≠y:=fun e=>by rw [e] at h1;exact absurd h1 (by simp)
   simp [h1,h3]
  ·by_cases h2:y<x
   ·have h3:x≠y:=fun e=>h1 (by rw [e] at h2⊢;exact h2)
    simp [h1,h2,h3]
   ·have h3:x=y:=UInt8.le_antisymm (UInt8.not_lt.1 h2) (UInt8.not_lt.1 h1)
    subst h3;simp [h1,ih]
theorem BJ {w:World} {g o:Nat} {t:Th} {ka:au} {kc:Nat} {la:au} {lc:Nat} {oa:au} {oc:Nat} (h:∀q u,(t.cells ka kc la lc oa oc)[q]? =some u->w.cell? ⟨g,o+q,none⟩=some u/\w.frozen? ⟨g,o+q,none⟩=false):
 w.cell? ⟨g,o,none⟩=some (.string t.name)/\w.cell? ⟨g,o+1,none⟩=some (.int .i64 t.v.k)/\w.cell? ⟨g,o+2,none⟩=some (.int .i64 t.v.n)/\w.cell? ⟨g,o+3,none⟩=some (.string t.v.s)/\w.cell? ⟨g,o+4,none⟩=some (.slice ka t.v.keys.length kc)/\
 w.cell? ⟨g,o+5,none⟩=some (.slice la t.v.l.length lc)/\w.cell? ⟨g,o+6,none⟩=some (.slice oa t.ows.length oc)/\w.cell? ⟨g,o+7,none⟩=some (.int .i64 t.ver)/\w.cell? ⟨g,o+8,none⟩=some (.int .i64 t.gen)/\w.cell? ⟨g,o+9,none⟩=some (.string t.st.sb)/\
 w.cell? ⟨g,o+10,none⟩=some (.string t.st.cm)/\w.cell? ⟨g,o+11,none⟩=some (.int .i64 t.st.ph)/\w.cell? ⟨g,o+12,none⟩=some (.int .i64 t.st.sp)/\w.cell? ⟨g,o+13,none⟩=some (.int .i64 t.st.wt)/\w.cell? ⟨g,o+14,none⟩=some (.int .i64 t.st.si):=
 ⟨(h 0 _ rfl).1,(h 1 _ rfl).1,(h 2 _ rfl).1,(h 3 _ rfl).1,(h 4 _ rfl).1,(h 5 _ rfl).1,(h 6 _ rfl).1,(h 7 _ rfl).1,(h 8 _ rfl).1,(h 9 _ rfl).1,(h 10 _ rfl).1,(h 11 _ rfl).1,(h 12 _ rfl).1,(h 13 _ rfl).1,(h 14 _ rfl).1⟩
theorem Ny (t:Th) (ka:au) (kc:Nat) (la:au) (lc:Nat) (oa:au) (oc:Nat) (name:ah) (w:World):
 Calls prog 81 #[.agg #[.string t.name, .int .i64 t.v.k, .int .i64 t.v.n, .string t.v.s, .slice ka t.v.keys.length kc, .slice la t.v.l.length lc, .slice oa t.ows.length oc, .int .i64 t.ver, .int .i64 t.gen, .string t.st.sb, .string t.st.cm, .int .i64 t.st.ph, .int .i64 t.st.sp, .int .i64 t.st.wt, .int .i64 t.st.si], .string name] w fun e w'=>e= .returned (.int .i64 (Lib.compareBytes t.name.data.toList name.data.toList))/\Ext w w':=by
 go_enter func81,ntmps81;go_wp2_with fail;(refine(Tryz.strings_Compare t.name name _).mono ?_);rintro e w1 ⟨rfl,rfl⟩;go_wp2_with fail;go_ret;exact⟨rfl,Xt⟩
theorem ae0 {l:List Th} {name:ah} (h:fw l name<l.length):gG l name=(Lib.compareBytes (l[fw l name]).name.data.toList name.data.toList==0):=by
 unfold gG hasB;rw [show posOf (l.map Th.name) name=fw l name from rfl,List.getElem?_eq_getElem (by simpa using h),List.getElem_map];have:=U0 (l[fw l name]).name.data.toList name.data.toList;rw [Bool.eq_iff_iff,beq_iff_eq,this];simp [ByteArray.toList_eq]
theorem UN {l:List Th} {name:ah} (h:¬fw l name<l.length):gG l name=false:=by
 unfold gG hasB;rw [show posOf (l.map Th.name) name=fw l name from rfl,List.getElem?_eq_none (by simpa using h)]
theorem ae1 (P:az) (r:Nat) (s:Sv) (v:Value) (xs:List Value) (name:ah) (w:World) (fR:ey w P r s v xs) (hbig:s.ax.length<=1073741824) (hr:cz (s.ax.map Th.name)):
 Calls prog 80 #[v, .string name, .func (.func 81) #[] #[]] w fun e w'=>e= .returned (.tuple #[.int .i64 (fw s.ax name), .bool (gG s.ax name)])/\Ext w w':=by
 have fx:=ae fR
 have AV:=ae (show∀i t (hi:i<s.ax.length) (h:t<s.ax.length) (hst:i<=t),bC (s.ax[t]).name name=true->bC (s.ax[i]).name name=true from fun i t hi h hst hl=>by
  by_cases e:i=t
  ·subst e;exact hl
  ·have:=yK hr (i:=i) (j:=t) (by simp;omega) (by simpa using h) (by omega)
   simp only [List.getElem_map] at this
   exact tS this hl)
 obtain⟨a,c,hv⟩:=fT fR.own;obtain⟨l,hl⟩:∃l,s.ax=l:=⟨_,rfl⟩;have hv:=hv.1;clear fR hr;subst hv;rw [hl] at hbig⊢
 have kM:=ae (show∀w',Ext w w'->∀k (hk:k<l.length),∃g,a=some ⟨g,0,none⟩/\∃ka kc la lc oa oc,∀q u,((l[k]).cells ka kc la lc oa oc)[q]? =some u->w'.cell? ⟨g,k*15+q,none⟩=some u/\w'.frozen? ⟨g,k*15+q,none⟩=false from fun w' e k hk=>by
  subst hl;obtain⟨g,c2,ka,kc,la,lc,oa,oc,h1,-,-,-,-,h2,-⟩:=(fx.out.ext e).thing hk;simp only [Value.slice.injEq] at h1
  exact⟨g,h1.1,ka,kc,la,lc,oa,oc,h2⟩)
 rw [hl] at AV;clear fx hl;go_enter func80,ntmps80;go_wp2_with fail
 go_loopg [9,10] l.length (fun gg s9 CR wr=>∃lo hi:Nat,s9= .int .i64 lo/\CR= .int .i64 hi/\lo<=hi/\hi<=l.length/\hi-lo<=gg/\ (∀t (h:t<l.length),t<lo->bC (l[t]).name name=true)/\ (∀t (h:t<l.length),hi<=t->bC (l[t]).name name=false)/\Ext w wr)
 case atStart=>exact⟨0,l.length,rfl,rfl,Nat.zero_le _,Nat.le_refl _,by omega,fun t h h0=>absurd h0 (Nat.not_lt_zero _),fun t h h0=>by omega,Xt⟩
 case round=>
  obtain⟨lo,hi,rfl,rfl,JV,hin,hgg,h1,h2,hx⟩:=hrel;have H1:=ae h1;have H2:=ae h2;clear h1 h2;by_cases hlt:lo<hi
  ·have hmid:(lo+hi)/2<l.length:=by omega
   obtain⟨g,rfl,ka,kc,la,lc,oa,oc,hcs⟩:=kM.out _ hx _ hmid;have hm0:(0:Int)<= ((lo:Int)+(hi:Int))/2:=by omega
   have CC:((lo:Int)+(hi:Int))/2<(l.length:Int):=by omega
   have CS:(((lo:Int)+(hi:Int))/2).toNat=(lo+hi)/2:=by omega
   have yS:=ae (show bC (l[(lo+hi)/2]).name name=true↔Lib.compareBytes (l[(lo+hi)/2]).name.data.toList name.data.toList<0 by unfold bC;rw [ByteArray.toList_eq,ByteArray.toList_eq];exact(JT _ _).symm);obtain⟨d0,d1,d2,d3,d4,d5,d6,d7,d8,d9,d10,d11,d12,d13,d14⟩:=BJ hcs;clear hcs;by_cases hcm:Lib.compareBytes (l[(lo+hi)/2]).name.data.toList name.data.toList<0
   ·have Hl:=ae (yS.out.2 hcm)
    go_wp2_with fail;(refine(Ny l[(lo+hi)/2] ka kc la lc oa oc name _).mono ?_);rintro e w2 ⟨rfl,h2⟩;go_wp2_with fail;go_roundg (hi-((lo+hi)/2+1))
    case measure=>omega
    case rel=>exact⟨(lo+hi)/2+1,hi,by go_num,rfl,by omega,hin,Nat.le_refl _,fun t h ht=>AV.out t _ h hmid (by omega) Hl.out,H2.out,Xt⟩
   ·have Hl:=ae (show bC (l[(lo+hi)/2]).name name=false by
     cases hb:bC (l[(lo+hi)/2]).name name with
     |false=>rfl
     |true=>exact absurd (yS.out.1 hb) hcm)
    go_wp2_with fail;(refine(Ny l[(lo+hi)/2] ka kc la lc oa oc name _).mono ?_);rintro e w2 ⟨rfl,h2⟩;go_wp2_with fail;go_roundg ((lo+hi)/2-lo)
    case measure=>omega
    case rel=>exact⟨lo,(lo+hi)/2,rfl,by go_num,by omega,by omega,Nat.le_refl _,H1.out,(fun t h ht=>by
     cases hb:bC (l[t]).name name with
     |false=>rfl
     |true=>have:=AV.out _ t hmid h ht hb;rw [Hl.out] at this;cases this),Xt⟩
  ·obtain rfl:hi=lo:=by omega
   have hpos:hi=fw l name:=JW (ks:=l.map Th.name) (by simpa using hin) (fun i h=>by simp only [List.getElem_map];exact H1.out i (by omega) h) (fun h=>by simp only [List.getElem_map];exact H2.out hi (by simpa using h) (Nat.le_refl _));have yT:=ae hpos;clear hpos;by_cases hend:hi<l.length
   ·have JX:(hi:Int)<(l.length:Int):=by omega
    obtain⟨g,rfl,ka,kc,la,lc,oa,oc,hcs⟩:=kM.out _ hx _ hend
    have Hb:=ae (show gG l name=(Lib.compareBytes (l[hi]).name.data.toList name.data.toList==0) by
     have h1:=yT.out;subst h1
     exact ae0 hend)
    obtain⟨d0,d1,d2,d3,d4,d5,d6,d7,d8,d9,d10,d11,d12,d13,d14⟩:=BJ hcs;clear hcs;go_wp2_with fail;(refine(Ny l[hi] ka kc la lc oa oc name _).mono ?_);rintro e w2 ⟨rfl,h2⟩;go_wp2_with fail;go_ret2;rw [<-yT.out,Hb.out];exact⟨rfl,Xt⟩
   ·have JX:¬(hi:Int)<(l.length:Int):=by omega
    have Hb:=ae (show gG l name=false from UN (by rw [<-yT.out];exact hend));go_wp2_with fail;go_ret2;rw [<-yT.out,Hb.out];exact⟨rfl,Xt⟩
theorem aeV (P:az) (r:Nat) (s:Sv) (name:ah) (w:World) (fR:Sat w P r s) (hbig:s.ax.length<=1073741824) (hr:cz (s.ax.map Th.name)):
 Calls prog 53 #[.pointer (some ⟨r,0,none⟩), .string name] w fun e w'=>e= .returned (.tuple #[.int .i64 (fw s.ax name), .bool (gG s.ax name)])/\Ext w w':=by
 have uU:∀(fn:Fn) (first cap:Array Value) (w:World),(Instr.makeFunc fn first cap).run prog w= .ok (.func fn first cap) w:=fun _ _ _ _=>rfl;obtain⟨v,xs,h⟩:=fR;have ag:=h.box;have fx:=ae h;have Hr:=ae hr;clear h hr;obtain⟨hc0,aw,hl0⟩:=ag.see;go_enter func53,ntmps53;go_wp2_with fail;(refine(ae1 P r s v xs name _ (fx.out.ext Xt) hbig Hr.out).mono ?_);rintro e w1 ⟨rfl,h1⟩;go_wp2_with fail;go_ret2;exact⟨rfl,Xt⟩
end Go.Proofs.YtlcebdaghmdkeabGreatDoor
