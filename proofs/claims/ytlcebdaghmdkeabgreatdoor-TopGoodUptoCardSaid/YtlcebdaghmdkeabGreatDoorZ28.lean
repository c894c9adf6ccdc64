import Derived.Shelf.Strings.SlTrimAscii
import Derived.Test.YtlcebdaghmdkeabGreatDoorZ6
set_option linter.all false
set_option maxRecDepth 100000
set_option maxHeartbeats 64000000
namespace Go.Proofs.YtlcebdaghmdkeabGreatDoor
open Go.Proofs.Tryz
open Go.RowKit
attribute [local go_sem↓] Go.wp_at_zero Go.wp_at_succ
structure Rd (r:Nat) (w w':World):Prop where
 below:Below r w w'
 held:Held (fun b=>b≠r) w w'
theorem Rd.refl (r:Nat) (w:World):Rd r w w:=⟨Below.refl _ _,Held.refl _ _⟩
theorem Rd.trans {r:Nat} {a b c:World} (h:Rd r a b) (k:Rd r b c):Rd r a c:=⟨h.below.trans k.below,h.held.trans k.held⟩
theorem Rd.size {r:Nat} {a b:World} (h:Rd r a b):a.heap.size<=b.heap.size:=h.held.size
theorem Rd.ext {r:Nat} {a b c:World} (h:Rd r a b) (hr:r<a.heap.size) (e:Ext b c):Rd r a c:=
 ⟨h.below.trans (Below.mono e (by have:=h.size;omega)),h.held.ext e⟩
theorem Rd.of {r:Nat} {a b:World} (hr:r<a.heap.size) (e:Ext a b):Rd r a b:=(Rd.refl r a).ext hr e
theorem Rd.set {r:Nat} {a b:World} (h:Rd r a b) (i:Nat) (v:Value):Rd r a (b.setCell ⟨r,i,none⟩ v):=
 ⟨h.below.setCell (Nat.le_refl _) v,h.held.set (by simp) v⟩
theorem af.rd {r:Nat} {w w':World} {n:Nat} {vs:Array Value} {T:TypeId} (e:Rd r w w') (h:af w n vs T) (hn:n≠r):af w' n vs T:=af.held e.held h hn
theorem In.rd {r:Nat} {w w':World} (e:Rd r w w') {x:V} {S:az} {ka:au} {kc:Nat} {la:au} {lc:Nat} (h:x.In w S ka kc la lc) (hS:∀b,S b->b≠r):x.In w' S ka kc la lc:=
 h.keep (fun b hb hl=>e.held.block b (hS b hb) hl) (fun _ h _=>h)
abbrev Sr (w:World) (r:Nat) (s:ah) (bad:Bool):Prop:=af w r #[.string s, .bool bad] 94
theorem Sr.ext {w w':World} {r:Nat} {s:ah} {bad:Bool} (h:Sr w r s bad) (e:Ext w w'):Sr w' r s bad:=af.ext e h
theorem Sr.lt {w:World} {r:Nat} {s:ah} {bad:Bool} (h:Sr w r s bad):r<w.heap.size:=af.lt h
theorem ab2 (s:Bytes):Lib.trimLeftS s [32,9,10,13]=dO s:=by
 unfold Lib.trimLeftS dO;congr 1;funext c;rw [Bool.eq_iff_iff];simp [isSp,or_assoc]
theorem L8 {P:Program} {fn:Func} {R:Ending->World->Prop} {tmps:Array Value} {w:World} (hr:fn.results= #[]) (hR:R (.returned (.tuple #[])) w):
 bodyPost P fn R .normal {tmps:=tmps,defers:= []} w:=bodyPost_end (results_none hr _ _ _) rfl hR
theorem dE (r:Nat) (s:ah) (bad:Bool) (w:World) (hr:Sr w r s bad):
 Calls prog 70 #[.pointer (some ⟨r,0,none⟩)] w fun e w'=>e= .returned (.tuple #[])/\Sr w' r ⟨#[]⟩ true/\Rd r w w':=by
 obtain⟨hc0,aw,hl0⟩:=hr.see;go_enter func70,ntmps70;go_wp2_with fail;(with_reducible apply L8);(focus(rfl));exact⟨rfl,aj,((Rd.refl _ _).set _ _).set _ _⟩
theorem Bl (r:Nat) (s:ah) (bad:Bool) (w:World) (hr:Sr w r s bad):
 Calls prog 48 #[.pointer (some ⟨r,0,none⟩)] w fun e w'=>e= .returned (.tuple #[])/\ (∃s',s'.data.toList=dO s.data.toList/\Sr w' r s' bad)/\Rd r w w':=by
 have hlt:=hr.lt;obtain⟨hc0,aw,hl0⟩:=hr.see;go_enter func48,ntmps48;go_wp2_with fail;(refine(Any.strings_TrimLeft_laid Tryz.ab3 (by kernel_rfl) s ⟨#[32,9,10,13]⟩ _ (by decide) (ascii_of_all (by decide))).mono ?_);rintro e w1 ⟨rfl,h1⟩;have h1:Ext w w1:=h1;have hr1:=hr.ext h1;obtain⟨s1,hs1⟩:∃s1:ah,(⟨(Lib.trimLeftS s.data.toList [32,9,10,13]).toArray⟩:ah)=s1:=⟨_,rfl⟩;have hs2:s1.data.toList=dO s.data.toList:=by rw [<-hs1,<-ab2]
 have jv:=ae hs2;clear hc0 aw hl0 hs2;obtain⟨hc1,aA,ay⟩:=hr1.see;have e1:(⟨(Lib.trimLeftS s.data.toList (⟨#[32,9,10,13]⟩:ah).data.toList).toArray⟩:ah)=s1:=hs1;rw [e1];clear e1 hs1;go_wp2_with fail;(with_reducible apply L8);(focus(rfl));exact⟨rfl,⟨s1,jv.out,aj⟩,(Rd.of hlt h1).set _ _⟩
def gA (l:Bytes):UInt8:=l.headD 0
theorem ab4 {s:ah} (h:0<s.size):s[0]=gA s.data.toList:=by
 have h':0<s.data.toList.length:=by rw [Array.length_toList];exact h
 unfold gA
 cases hc:s.data.toList with
 |nil=>rw [hc] at h';simp at h'
 |cons c t=>
  have:s.data.toList[0]'h'=c:=by simp [hc]
  rw [List.headD_cons,<-this];rfl
theorem lX (r:Nat) (s:ah) (bad:Bool) (w:World) (hr:Sr w r s bad):
 Calls prog 71 #[.pointer (some ⟨r,0,none⟩)] w fun e w'=>e= .returned (.int .u8 (gA s.data.toList).toNat)/\w'=w:=by
 obtain⟨hc0,aw,hl0⟩:=hr.see;by_cases hz:s.data.toList= []
 ·have hz1:s.toList= []:=by rw [ByteArray.toList_eq,hz]
  have hz2:(s.toList== [])=true:=by rw [hz1];rfl
  have hz3:s.toList.isEmpty=true:=by rw [hz1];rfl
  rw [hz];clear hz;go_enter func71,ntmps71;go_wp2_with fail;refine aF (h:= ?_);exact⟨rfl,rfl⟩
 ·have hz1:¬s.toList= []:=by rw [ByteArray.toList_eq];exact hz
  have hz2:(s.toList== [])=false:=by simpa using hz1
  have hz3:s.toList.isEmpty=false:=by cases h:s.toList with|nil=>exact absurd h hz1|cons=>rfl
  have hsz:0<s.size:=by have:=List.length_pos_iff.2 hz;rw [Array.length_toList] at this;exact this
  have Hh:=ae (ab4 hsz);clear hz;go_enter func71,ntmps71;go_wp2_with fail;refine aF (h:= ?_);refine⟨?_,rfl⟩;rw [<-Hh.out]
theorem xC (r:Nat) (s:ah) (bad:Bool) (p:ah) (w:World) (hr:Sr w r s bad):
 Calls prog 72 #[.pointer (some ⟨r,0,none⟩), .string p] w fun e w'=>e= .returned (.tuple #[])/\Rd r w w'/\
  ((p.data.toList.isPrefixOf s.data.toList=true/\∃s',s'.data.toList=s.data.toList.drop p.data.toList.length/\Sr w' r s' bad)\/ (p.data.toList.isPrefixOf s.data.toList=false/\Sr w' r ⟨#[]⟩ true)):=by
 obtain⟨hc0,aw,hl0⟩:=hr.see;obtain⟨s1,hs1⟩:∃s1:ah,(⟨(Lib.trimPrefix s.data.toList p.data.toList).toArray⟩:ah)=s1:=⟨_,rfl⟩;have hs2:s1.data.toList=Lib.trimPrefix s.data.toList p.data.toList:=by rw [<-hs1]
 have dY:=ae hs1;have jv:=ae hs2;clear hs1 hs2
 cases hp:Lib.hasPrefix s.data.toList p.data.toList with
 |true=>
  have Hp:=ae hp;have hp2:p.data.toList.isPrefixOf s.data.toList=true:=hp;clear hp;have L9:=ae hp2;clear hp2;go_enter func72,ntmps72;go_wp2_with fail;(refine(Tryz.strings_CutPrefix s p _).mono ?_);rintro e w1 ⟨rfl,rfl⟩;rw [dY.out,Hp.out];go_wp2_with fail;(with_reducible apply L8);(focus(rfl));refine⟨rfl,(Rd.refl _ _).set _ _, .inl ⟨L9.out,s1,?_,aj⟩⟩;rw [jv.out];unfold Lib.trimPrefix;rw [if_pos Hp.out]
 |false=>
  have Hp:=ae hp;have hp2:p.data.toList.isPrefixOf s.data.toList=false:=hp;clear hp;have L9:=ae hp2;clear hp2;go_enter func72,ntmps72;go_wp2_with fail;(refine(Tryz.strings_CutPrefix s p _).mono ?_);rintro e w1 ⟨rfl,rfl⟩;rw [dY.out,Hp.out];go_wp2_with fail;(refine(dE r s bad _ hr).mono ?_);rintro e w2 ⟨rfl,hr2,h2⟩;go_wp2_with fail;refine aF (h:= ?_);exact⟨rfl,h2, .inr ⟨L9.out,hr2⟩⟩
theorem sB (s:ah) (n:Nat):(s.extract n s.size).data.toList=s.data.toList.drop n:=by
 rw [Lib.extract_data,List.take_of_length_le (by rw [List.length_drop,Array.length_toList];exact Nat.le_refl _)]
def Bn (r:Nat) (t:Bytes) (bad first:Bool) (c:UInt8) (w:World) (e:Ending) (w':World):Prop:=
 Rd r w w'/\∃(s':ah) (gB:Bool),Sr w' r s' gB/\ (gB=true->s'.data.toList= [])/\
  ((∃u,t=c::u/\e= .returned (.bool false)/\gB=bad/\s'.data.toList=u)\/
   (gA t≠c/\e= .returned (.bool (!gB))/\ ((first=true/\gB=bad/\s'.data.toList=t)\/ (first=false/\ ((∃u,t=44::u/\gB=bad/\s'.data.toList=u)\/ (gA t≠44/\gB=true))))))
theorem Ma (r:Nat) (s:ah) (bad first:Bool) (c:UInt8) (hc:c≠0) (hb:bad=true->s.data.toList= []) (w:World) (hr:Sr w r s bad):
 Calls prog 103 #[.pointer (some ⟨r,0,none⟩), .bool first, .int .u8 c.toNat] w (Bn r (dO s.data.toList) bad first c w):=by
 have hlt:=hr.lt;have Hb:=ae hb;clear hb;go_enter func103,ntmps103;go_wp2_with fail;(refine(Bl r s bad _ hr).mono ?_);rintro e w1 ⟨rfl,⟨s1,hs1,hr1⟩,h1⟩;have dY:=ae hs1;have hb1:bad=true->s1.data.toList= []:=fun h=>by rw [hs1,Hb.out h];rfl
 have Mb:=ae hb1;clear hs1 hb1 Hb hr;have ahf:=hr1.lt;by_cases hc1:gA s1.data.toList=c
 ·have hcb:((gA s1.data.toList).toNat:Int)=(c.toNat:Int):=by rw [hc1]
  have hcc:(((gA s1.data.toList).toNat:Int)==(c.toNat:Int))=true:=by rw [hcb];simp
  have hne:s1.data.toList≠ []:=fun h=>by rw [h] at hc1;exact hc hc1.symm
  have hsz:1<=s1.size:=by have:=List.length_pos_iff.2 hne;rw [Array.length_toList] at this;exact this
  have hsz1:(1:Int)<= (s1.size:Int):=by omega
  have qV:s1.data.toList=c::s1.data.toList.drop 1:=by
   cases hq:s1.data.toList with
   |nil=>exact absurd hq hne
   |cons d t=>rw [hq] at hc1;simp only [gA,List.headD_cons] at hc1;rw [hc1];rfl
  have pB:=ae qV;clear qV hne hc1 hcb;obtain⟨hc1,aA,ay⟩:=hr1.see;go_wp2_with fail;(refine(lX r s1 bad _ hr1).mono ?_);rintro e w2 ⟨rfl,rfl⟩;go_wp2_with fail;refine aF (h:= ?_);rw [<-dY.out];unfold Bn;refine⟨h1.set _ _,s1.extract 1 s1.size,bad,aj,fun h=>by rw [sB,Mb.out h];rfl, .inl ⟨s1.data.toList.drop 1,pB.out,rfl,rfl,sB _ _⟩⟩
 ·have hcb:¬((gA s1.data.toList).toNat:Int)=(c.toNat:Int):=fun h=>hc1 (by apply UInt8.toNat_inj.1;omega)
  have hcc:(((gA s1.data.toList).toNat:Int)==(c.toNat:Int))=false:=by simpa using hcb
  have Mc:=ae hc1;clear hc1 hcb;obtain⟨hc1,aA,ay⟩:=hr1.see;go_wp2_with fail;(refine(lX r s1 bad _ hr1).mono ?_);rintro e w2 ⟨rfl,rfl⟩
  cases first with
  |true=>
   go_wp2_with fail;refine aF (h:= ?_);rw [<-dY.out];unfold Bn;exact⟨h1,s1,bad,hr1,Mb.out, .inr ⟨Mc.out,rfl, .inl ⟨rfl,rfl,rfl⟩⟩⟩
  |false=>
   go_wp2_with fail;(refine(xC r s1 bad ⟨#[44]⟩ _ hr1).mono ?_);rintro e w3 ⟨rfl,h3,(⟨hp,s3,hs3,hr3⟩|⟨hp,hr3⟩)⟩
   ·have qV:s1.data.toList=44::s3.data.toList:=by
     rw [hs3]
     cases hq:s1.data.toList with
     |nil=>rw [hq] at hp;simp [List.isPrefixOf] at hp
     |cons d t=>
      rw [hq] at hp;simp only [List.isPrefixOf,Bool.and_true,beq_iff_eq] at hp;rw [<-hp];rfl
    have pB:=ae qV;clear qV hp hs3 hc1 aA ay;obtain⟨hc3,hf3,aR⟩:=hr3.see;go_wp2_with fail;refine aF (h:= ?_);rw [<-dY.out];unfold Bn;exact⟨h1.trans h3,s3,bad,hr3,(fun h=>by have:=Mb.out h;rw [pB.out] at this;cases this), .inr ⟨Mc.out,rfl, .inr ⟨rfl, .inl ⟨_,pB.out,rfl,rfl⟩⟩⟩⟩
   ·have hne:gA s1.data.toList≠44:=fun h=>by
     cases hq:s1.data.toList with
     |nil=>rw [hq] at h;simp [gA] at h
     |cons d t=>
      rw [hq] at h hp;simp only [gA,List.headD_cons] at h;rw [h] at hp;simp [List.isPrefixOf] at hp
    have dW:=ae hne;clear hne hp hc1 aA ay;obtain⟨hc3,hf3,aR⟩:=hr3.see;go_wp2_with fail;refine aF (h:= ?_);rw [<-dY.out];unfold Bn;exact⟨h1.trans h3,⟨#[]⟩,true,hr3,fun _=>rfl, .inr ⟨Mc.out,rfl, .inr ⟨rfl, .inr ⟨dW.out,rfl⟩⟩⟩⟩
end Go.Proofs.YtlcebdaghmdkeabGreatDoor
