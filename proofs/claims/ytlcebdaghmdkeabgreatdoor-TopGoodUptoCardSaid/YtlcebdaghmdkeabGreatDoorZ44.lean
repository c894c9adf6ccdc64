import Derived.Test.YtlcebdaghmdkeabGreatDoorZ42
set_option linter.all false
set_option maxRecDepth 100000
set_option maxHeartbeats 64000000
namespace Go.Proofs.YtlcebdaghmdkeabGreatDoor
open Go.Proofs.Tryz
open Go.RowKit
attribute [local go_sem↓] Go.wp_at_zero Go.wp_at_succ
theorem jk.cells {w:World} {S:az} {l:List Th} {a:au} (h:jk w S l a) {i:Nat} (hi:i<l.length):∃b ka kc la lc oa oc,a=some ⟨b,0,none⟩/\S b/\b<w.heap.size/\ji w S l[i] ka kc la lc oa oc/\
 w.cell? ⟨b,i*15,none⟩=some (.string l[i].name)/\
 w.cell? ⟨b,i*15+1,none⟩=some (.int .i64 l[i].v.k)/\
 w.cell? ⟨b,i*15+2,none⟩=some (.int .i64 l[i].v.n)/\
 w.cell? ⟨b,i*15+3,none⟩=some (.string l[i].v.s)/\
 w.cell? ⟨b,i*15+4,none⟩=some (.slice ka l[i].v.keys.length kc)/\
 w.cell? ⟨b,i*15+5,none⟩=some (.slice la l[i].v.l.length lc)/\
 w.cell? ⟨b,i*15+6,none⟩=some (.slice oa l[i].ows.length oc)/\
 w.cell? ⟨b,i*15+7,none⟩=some (.int .i64 l[i].ver)/\
 w.cell? ⟨b,i*15+8,none⟩=some (.int .i64 l[i].gen)/\
 w.cell? ⟨b,i*15+9,none⟩=some (.string l[i].st.sb)/\
 w.cell? ⟨b,i*15+10,none⟩=some (.string l[i].st.cm)/\
 w.cell? ⟨b,i*15+11,none⟩=some (.int .i64 l[i].st.ph)/\
 w.cell? ⟨b,i*15+12,none⟩=some (.int .i64 l[i].st.sp)/\
 w.cell? ⟨b,i*15+13,none⟩=some (.int .i64 l[i].st.wt)/\
 w.cell? ⟨b,i*15+14,none⟩=some (.int .i64 l[i].st.si):=by
 obtain⟨b,ka,kc,la,lc,oa,oc,h1,h2,h3,h4,h5⟩:=h.at hi;exact⟨b,ka,kc,la,lc,oa,oc,h1,h2,h3,h5,h4 0 _ rfl,h4 1 _ rfl,h4 2 _ rfl,h4 3 _ rfl,h4 4 _ rfl,h4 5 _ rfl,h4 6 _ rfl,h4 7 _ rfl,h4 8 _ rfl,h4 9 _ rfl,h4 10 _ rfl,h4 11 _ rfl,h4 12 _ rfl,h4 13 _ rfl,h4 14 _ rfl⟩
def agx (S:az) (l:List Th) (name:ah) (w:World) (e:Ending) (w':World):Prop:=
 Ext w w'/\ ((∃t ka kc la lc oa oc,jA l name=some t/\e= .returned (.tuple #[.agg #[.string t.name, .int .i64 t.v.k, .int .i64 t.v.n, .string t.v.s, .slice ka t.v.keys.length kc, .slice la t.v.l.length lc, .slice oa t.ows.length oc, .int .i64 t.ver, .int .i64 t.gen, .string t.st.sb, .string t.st.cm, .int .i64 t.st.ph, .int .i64 t.st.sp, .int .i64 t.st.wt, .int .i64 t.st.si], .bool true])/\ji w' S t ka kc la lc oa oc)\/ (jA l name=none/\e= .returned (.tuple #[.agg #[.string ⟨#[]⟩, .int .i64 0, .int .i64 0, .string ⟨#[]⟩, .slice none 0 0, .slice none 0 0, .slice none 0 0, .int .i64 0, .int .i64 0, .string ⟨#[]⟩, .string ⟨#[]⟩, .int .i64 0, .int .i64 0, .int .i64 0, .int .i64 0], .bool false])))
theorem agy {l:List Th} {name:ah} {k:Nat} (h:k<l.length):jA (l.drop k) name=if l[k].name=name then some l[k] else jA (l.drop (k+1)) name:=by
 rw [List.drop_eq_getElem_cons h];unfold jA;rw [List.find?_cons];by_cases he:l[k].name=name
 ·rw [decide_eq_true he,if_pos he]
 ·rw [decide_eq_false he,if_neg he]
theorem BQ (l:List Th) (a:au) (n c:Nat) (name:ah) (S:az) (w:World) (h:jk w S l a) (e1:l.length=n) (hl:l.length<=1048576):
 Calls prog 12 #[.slice a n c, .string name] w (agx S l name w):=by
 subst e1;have H:=ae h;clear h;go_enter func12,ntmps12;go_wp2_with fail
 go_loopg [7,10] l.length (fun g _ i wr=>∃k:Nat,k<=l.length/\i= .int .i64 k/\g=l.length-k/\Hid (jA (l.drop k) name=jA l name)/\af wr w.heap.size #[.string ⟨#[]⟩, .int .i64 0, .int .i64 0, .string ⟨#[]⟩, .slice none 0 0, .slice none 0 0, .slice none 0 0, .int .i64 0, .int .i64 0, .string ⟨#[]⟩, .string ⟨#[]⟩, .int .i64 0, .int .i64 0, .int .i64 0, .int .i64 0] 41/\Ext w wr)
 case atStart=>exact⟨0,by omega,rfl,rfl,ae rfl,aQ,Xt⟩
 case round=>
  obtain⟨k,hk,rfl,rfl,Hf,hBr,hx⟩:=hrel;have hBl:=hBr.lt;by_cases hlt:k<l.length
  ·obtain⟨b1,ka,kc,la,lc,oa,oc,rfl,hS1,hb1,hi1,d0,d1,d2,d3,d4,d5,d6,d7,d8,d9,d10,d11,d12,d13,d14⟩:=H.out.cells hlt
   have d0:=hx.cell d0;have d1:=hx.cell d1;have d2:=hx.cell d2;have d3:=hx.cell d3;have d4:=hx.cell d4;have d5:=hx.cell d5;have d6:=hx.cell d6;have d7:=hx.cell d7;have d8:=hx.cell d8;have d9:=hx.cell d9;have d10:=hx.cell d10;have d11:=hx.cell d11;have d12:=hx.cell d12;have d13:=hx.cell d13;have d14:=hx.cell d14;have Hd:=ae (agy (name:=name) hlt);have kY:(0:Int)<= (k:Int):=by omega
   have kZ:(k:Int)<(l.length:Int):=by omega
   obtain⟨z,tG⟩:∃z,l[k]=z:=⟨_,rfl⟩;rw [tG] at d0 d1 d2 d3 d4 d5 d6 d7 d8 d9 d10 d11 d12 d13 d14 hi1 Hd;have rE:=ae hi1;clear hi1 tG;go_upto_region 4 with fail
   refine aI (R:=fun wx=>af wx w.heap.size #[.string ⟨#[]⟩, .int .i64 0, .int .i64 0, .string ⟨#[]⟩, .slice none 0 0, .slice none 0 0, .slice none 0 0, .int .i64 0, .int .i64 0, .string ⟨#[]⟩, .string ⟨#[]⟩, .int .i64 0, .int .i64 0, .int .i64 0, .int .i64 0] 41/\fu wx wr.heap.size z ka kc la lc oa oc/\Ext w wx) ⟨aQ,aQ,Xt⟩ ?_;clear d0 d1 d2 d3 d4 d5 d6 d7 d8 d9 d10 d11 d12 d13 d14 hBr;rintro wb ⟨ag,ai,aO⟩;obtain⟨hc0,aw,hl0⟩:=ag.see;obtain⟨hc1,aA,ay⟩:=ai.see;by_cases he:z.name=name
   ·have hb:=qL he
    have Hr:=ae (show jA l name=some z by rw [<-Hf.out,Hd.out,if_pos he]);clear he;go_wp2_with fail;refine aF (h:= ?_);exact⟨Xt, .inl ⟨z,ka,kc,la,lc,oa,oc,Hr.out,rfl,rE.out.ext Xt⟩⟩
   ·have hb:=qM he
    have Hr:=ae (show jA (l.drop (k+1)) name=jA l name by rw [<-Hf.out,Hd.out,if_neg he]);clear he;go_wp2_with fail;go_roundg (l.length-(k+1))
    case measure=>omega
    case rel=>exact⟨k+1,by omega,by go_num,rfl,Hr,aQ,Xt⟩
  ·have Hr:=ae (show jA l name=none by rw [<-Hf.out,List.drop_eq_nil_of_le (by omega)];rfl)
   obtain⟨hc0,aw,hl0⟩:=hBr.see;go_wp2_with fail;refine aF (h:= ?_);exact⟨Xt, .inr ⟨Hr.out,rfl⟩⟩
end Go.Proofs.YtlcebdaghmdkeabGreatDoor
