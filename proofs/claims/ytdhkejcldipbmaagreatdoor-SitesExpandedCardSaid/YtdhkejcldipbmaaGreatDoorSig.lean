
/-
 What SiteOf hands back: one of the sites of its model.
-/
import Derived.Test.YtdhkejcldipbmaaGreatDoorSit
namespace Go.Proofs.YtdhkejcldipbmaaGreatDoor
open Go Go.Ai Go.Proofs
set_option linter.unusedSimpArgs false
set_option linter.unusedVariables false
set_option maxHeartbeats 4000000
theorem genB_mono {c n : Nat} {f : FuncId} {args : List Val} {R R' : Val → Prop} (h : Gen Tryz.prog f args n R) (hn : n ≤ c) (hr : ∃ r, R' r) (hR : ∀ r, R r → R' r) : GenB Tryz.prog c f args R' :=
 ⟨hr, n, hn, fun L p h1 h2 h3 h4 => by
  have h5 := h L p h1 h2 h3 h4
  exact ⟨h5.1, fun w okA g vs htab he hl hv => Calls.mono (h5.2 w okA g vs htab he hl hv) (by
   rintro e w' ⟨v, cs, r, h6, ⟨h7, h8⟩, h9⟩
   exact ⟨v, cs, r, h6, ⟨h7, hR r h8⟩, h9⟩)⟩⟩
variable {c : Nat} (hc : 1 ≤ c)
include hc
theorem ok_flip {n : Int} {t e : Md} (h1 : 1 ≤ n) (hn : n ≤ 9223372036854775807) (ht : okMd Tryz.prog c t) (he : okMd Tryz.prog c e) : okMd Tryz.prog c (flipM n t e) := by
 refine ⟨genB_mono (flip_fc n h1 hn) hc ⟨bv true, by simp⟩ ?_, ?_⟩
 ·rintro r ⟨b, rfl⟩; cases b <;> simp
 ·intro v hv
  simp only [List.mem_cons, List.not_mem_nil, or_false] at hv
  rcases hv with rfl | rfl
  ·exact ht
  ·exact he
theorem ok_some {l : List ByteArray} {k : ByteArray → Md} (h1 : 0 < l.length) (h2 : l.length ≤ 100) (h : ∀ e ∈ l, okMd Tryz.prog c (k e)) : okMd Tryz.prog c (someM l k) :=
 ⟨genB_mono (some_fc false l h1 (by omega)) hc ⟨sv (l.getD 0 default), _, getD_mem l 0 h1, rfl⟩ (fun r h => h), h⟩
theorem ok_ints {l vs : List Int} {k : Int → Md} (h1 : 0 < l.length) (h2 : l.length ≤ 100) (hl : ∀ x ∈ l, x ∈ vs) (h : ∀ x ∈ vs, okMd Tryz.prog c (k x)) : okMd Tryz.prog c (intsM l vs k) := by
 refine ⟨genB_mono (pick_fc false l h1 (by omega)) hc ⟨iv (l.getD 0 default), List.mem_map.2 ⟨_, hl _ (getD_mem l 0 h1), rfl⟩⟩ ?_, ?_⟩
 ·rintro r ⟨x, hx, rfl⟩; exact List.mem_map.2 ⟨x, hl x hx, rfl⟩
 ·intro v hv
  obtain ⟨x, hx, rfl⟩ := List.mem_map.1 hv
  exact h x hx
theorem ok_boo {k : Bool → Md} (h : ∀ x, okMd Tryz.prog c (k x)) : okMd Tryz.prog c (.boo fFlip [iv 2] k) :=
 ⟨genB_mono (flip_fc 2 (by omega) (by omega)) hc ⟨bv true, true, rfl⟩ (fun r h => h), h⟩
theorem ok_num {l : List Int} {k : Int → Md} (h1 : 0 < l.length) (h2 : l.length ≤ 100) (h : ∀ x ∈ l, okMd Tryz.prog c (k x)) : okMd Tryz.prog c (.int fPick [ints false l] (fun x => x ∈ l) k) :=
 ⟨genB_mono (pick_fc false l h1 (by omega)) hc ⟨iv (l.getD 0 default), _, getD_mem l 0 h1, rfl⟩ (fun r h => h), h⟩
theorem ok_site {D : List (List Cel) → Prop} (hclk : GenB Tryz.prog c fClks [] (fun r => ∃ x, D x ∧ r = .one (.sl true 2 x))) (hodd : GenB Tryz.prog c fOdd [iv 1, iv 3] (fun r => ∃ x, x ∈ oddL ∧ r = iv x)) : okMd Tryz.prog c (siteM D) := by
 have hmod : ∀ cc al ats cl, okMd Tryz.prog c (modM cc al ats cl) := fun cc al ats cl => by
  refine ok_flip hc (by omega) (by omega) ⟨genB_mono (next_fc 5 (by omega) (by omega)) hc ⟨iv 0, by simp⟩ ?_, ?_⟩ trivial
  ·rintro r ⟨x, h0, h5, rfl⟩
   have : x = 0 ∨ x = 1 ∨ x = 2 ∨ x = 3 ∨ x = 4 := by omega
   rcases this with rfl | rfl | rfl | rfl | rfl <;> simp
  ·intro v hv
   simp only [List.mem_cons, List.not_mem_nil, or_false] at hv
   rcases hv with rfl | rfl | rfl | rfl | rfl
   ·exact ok_some hc (by simp) (by simp) fun _ _ => trivial
   ·exact ok_some hc (by simp) (by simp) fun _ _ => trivial
   ·exact ok_some hc (by simp) (by simp) fun _ _ => ok_some hc (by simp) (by simp) fun _ _ => trivial
   ·exact ok_some hc (by simp) (by simp) fun _ _ => ok_some hc (by simp) (by simp) fun _ _ => trivial
   ·exact ok_some hc (by simp) (by simp) fun _ _ => ⟨hodd, fun _ _ => ok_num hc (by simp) (by simp) fun _ _ => ok_some hc (by simp) (by simp) fun _ _ => trivial⟩
 have hclkM : ∀ cc al ats, okMd Tryz.prog c (.clk fClks [] D fun cl => modM cc al ats cl) := fun cc al ats => ⟨hclk, fun cl _ => hmod cc al ats cl⟩
 have hassets : ∀ cc al, okMd Tryz.prog c (assetsM fun ats => .clk fClks [] D fun cl => modM cc al ats cl) := fun cc al =>
  ok_some hc (by simp) (by simp) fun _ _ => ok_some hc (by simp) (by simp) fun _ _ => ok_some hc (by simp) (by simp) fun _ _ =>
   ⟨genB_mono (range_fc 1 3 (by omega) (by omega) (by omega)) hc ⟨iv 1, by simp⟩ (by
    rintro r ⟨x, h0, h5, rfl⟩
    have : x = 1 ∨ x = 2 ∨ x = 3 := by omega
    rcases this with rfl | rfl | rfl <;> simp), fun v _ => hclkM _ _ _⟩
 have halarms : ∀ cc, okMd Tryz.prog c (alarmsM fun al => assetsM fun ats => .clk fClks [] D fun cl => modM cc al ats cl) := fun cc =>
  ok_flip hc (by omega) (by omega) (ok_some hc (by simp) (by simp) fun _ _ => ok_ints hc (by simp) (by simp) (by simp) fun kd hk => ok_boo hc fun lat => by
   by_cases h3 : kd = 3
   ·rw [if_pos h3]; exact hassets _ _
   ·rw [if_neg h3]; exact ok_num hc (by simp) (by simp) fun _ _ => hassets _ _) (hassets _ _)
 exact ok_flip hc (by omega) (by omega) (ok_some hc (by simp) (by simp) fun _ _ => halarms _) (halarms _)
omit hc
def exprs0 : List ByteArray := [(ByteArray.mk #[37, 95, 116, 101, 109, 112, 32, 43, 32, 37, 95, 102, 108, 111, 119]), (ByteArray.mk #[37, 95, 116, 101, 109, 112]), (ByteArray.mk #[37, 95, 116, 101, 109, 112, 64, 53]), (ByteArray.mk #[103, 111, 111, 100, 40, 37, 95, 102, 108, 111, 119, 41])]
def CC0 : List Cel := gN :: exprs0.map fun e => .sl true 2 [[gS (ByteArray.mk #[37, 95, 115, 117, 109]), gS e]]
def tags0 : List ByteArray := [(ByteArray.mk #[37, 95, 116, 101, 109, 112]), (ByteArray.mk #[37, 95, 115, 117, 109]), (ByteArray.mk #[110, 111])]
def nums0 : List (Int × Int) := [(1, 2), (1, 4), (2, 2), (2, 4), (3, 0)]
def AL0 (al : Cel) : Prop := al = gN ∨ ∃ tag ∈ tags0, ∃ x ∈ nums0, ∃ lat, al = .sl true 10 [almE (ByteArray.mk #[37, 95, 104, 111, 116]) tag x.1 x.2 1 lat (ByteArray.mk #[])]
def AS0 (ats : List (List Cel)) : Prop := ∃ t2 ∈ [(ByteArray.mk #[112, 117, 109, 112]), (ByteArray.mk #[116, 97, 110, 107])], ∃ a2 ∈ [(ByteArray.mk #[]), (ByteArray.mk #[112, 49])], ∃ a3 ∈ [(ByteArray.mk #[]), (ByteArray.mk #[112, 50]), (ByteArray.mk #[112, 49])], ats = [asE (ByteArray.mk #[112, 49]) (ByteArray.mk #[]) (ByteArray.mk #[112, 117, 109, 112])] ∨ ats = [asE (ByteArray.mk #[112, 49]) (ByteArray.mk #[]) (ByteArray.mk #[112, 117, 109, 112]), asE (ByteArray.mk #[112, 50]) a2 t2] ∨ ats = [asE (ByteArray.mk #[112, 49]) (ByteArray.mk #[]) (ByteArray.mk #[112, 117, 109, 112]), asE (ByteArray.mk #[112, 50]) a2 t2, asE (ByteArray.mk #[112, 51]) a3 (ByteArray.mk #[116, 97, 110, 107])]
def AL4 (al : Cel) : Prop := ∃ key ∈ [(ByteArray.mk #[37, 95, 104, 111, 116]), (ByteArray.mk #[104, 111, 116])], ∃ kd ∈ oddL, ∃ pr ∈ [(0 : Int), 1], ∃ par ∈ [(ByteArray.mk #[37, 95, 104, 111, 116]), (ByteArray.mk #[122, 122]), (ByteArray.mk #[])], al = .sl true 10 [almE key (ByteArray.mk #[37, 95, 116, 101, 109, 112]) kd 0 pr false par]
def CC3 (cc : Cel) : Prop := ∃ e ∈ [(ByteArray.mk #[37, 95, 115, 117, 109]), (ByteArray.mk #[40]), (ByteArray.mk #[37, 95, 111, 116, 104, 101, 114])], ∃ t ∈ [(ByteArray.mk #[37, 95, 111, 116, 104, 101, 114]), (ByteArray.mk #[37, 95, 102, 108, 111, 119]), (ByteArray.mk #[120])], cc = .sl true 2 [[gS (ByteArray.mk #[37, 95, 115, 117, 109]), gS e], [gS t, gS (ByteArray.mk #[37, 95, 115, 117, 109])]]
inductive Dom : List ByteArray → Cel → Cel → List (List Cel) → Prop
 | base {cc al ats} : cc ∈ CC0 → AL0 al → AS0 ats → Dom tg0 cc al ats
 | tags {cc al ats t} : cc ∈ CC0 → AL0 al → AS0 ats → t ∈ [(ByteArray.mk #[112, 108, 97, 105, 110]), (ByteArray.mk #[65, 37]), (ByteArray.mk #[37, 95, 116, 101, 109, 112])] → Dom (tg0 ++ [t]) cc al ats
 | par {cc al ats a} : cc ∈ CC0 → AL0 al → AS0 ats → a ∈ [(ByteArray.mk #[112, 49]), (ByteArray.mk #[122, 122])] → Dom tg0 cc al (setPar a ats)
 | key {cc al ats key tp} : cc ∈ CC0 → AL0 al → AS0 ats → key ∈ [(ByteArray.mk #[112, 45, 49]), (ByteArray.mk #[]), (ByteArray.mk #[112, 57]), (ByteArray.mk #[112, 49])] → tp ∈ [(ByteArray.mk #[112, 117, 109, 112]), (ByteArray.mk #[122, 122])] → Dom tg0 cc al (setKey key tp ats)
 | calcs {cc al ats} : CC3 cc → AL0 al → AS0 ats → Dom tg0 cc al ats
 | alarms {cc al ats} : cc ∈ CC0 → AL4 al → AS0 ats → Dom tg0 cc al ats
theorem ex_flip {n : Int} {t e : Md} {r : Val} (h : exMd (flipM n t e) r) : exMd t r ∨ exMd e r := by
 obtain ⟨v, hv, h⟩ := h
 simp only [List.mem_cons, List.not_mem_nil, or_false] at hv
 rcases hv with rfl | rfl
 ·exact .inl h
 ·exact .inr h
theorem ex_ints {l vs : List Int} {k : Int → Md} {r : Val} (h : exMd (intsM l vs k) r) : ∃ x ∈ vs, exMd (k x) r := by
 obtain ⟨v, hv, h⟩ := h
 obtain ⟨x, hx, rfl⟩ := List.mem_map.1 hv
 exact ⟨x, hx, h⟩
theorem ex_site {D : List (List Cel) → Prop} {r : Val} (h : exMd (siteM D) r) : ∃ tags cc al ats cl, D cl ∧ Dom tags cc al ats ∧ r = siteV tags cc al ats cl := by
 obtain ⟨cc, hcc, h⟩ : ∃ cc ∈ CC0, exMd (alarmsM fun al => assetsM fun ats => .clk fClks [] D fun cl => modM cc al ats cl) r := by
  rcases ex_flip h with h | h
  ·obtain ⟨e, he, h⟩ := h
   exact ⟨_, List.mem_cons_of_mem _ (List.mem_map.2 ⟨e, he, rfl⟩), h⟩
  ·exact ⟨gN, List.mem_cons_self, h⟩
 obtain ⟨al, hal, h⟩ : ∃ al, AL0 al ∧ exMd (assetsM fun ats => .clk fClks [] D fun cl => modM cc al ats cl) r := by
  rcases ex_flip h with h | h
  ·obtain ⟨tag, ht, h⟩ := h
   obtain ⟨kd, hk, lat, h⟩ := ex_ints h
   have ht' : tag ∈ tags0 := by
    simp only [List.mem_cons, List.not_mem_nil, or_false] at ht
    rcases ht with rfl | rfl | rfl | rfl <;> simp [tags0]
   by_cases h3 : kd = 3
   ·simp only [if_pos h3] at h
    subst h3
    exact ⟨_, .inr ⟨tag, ht', (3, 0), by simp [nums0], lat, rfl⟩, h⟩
   ·simp only [if_neg h3] at h
    obtain ⟨lim, hl, h⟩ := h
    refine ⟨_, .inr ⟨tag, ht', (kd, lim), ?_, lat, rfl⟩, h⟩
    simp only [List.mem_cons, List.not_mem_nil, or_false] at hk hl
    rcases hk with rfl | rfl | rfl <;> rcases hl with rfl | rfl <;> simp_all [nums0]
  ·exact ⟨gN, .inl rfl, h⟩
 obtain ⟨ats, has, cl, hcl, h⟩ : ∃ ats, AS0 ats ∧ ∃ cl, D cl ∧ exMd (modM cc al ats cl) r := by
  obtain ⟨t2, h2, a2, h3, a3, h4, n, hn, cl, hcl, h⟩ := h
  refine ⟨_, ⟨t2, h2, a2, h3, a3, h4, ?_⟩, cl, hcl, h⟩
  simp only [List.mem_cons, List.not_mem_nil, or_false] at hn
  rcases hn with rfl | rfl | rfl
  ·exact .inl rfl
  ·exact .inr (.inl rfl)
  ·exact .inr (.inr rfl)
 rcases ex_flip h with h | h
 ·obtain ⟨v, hv, h⟩ := h
  simp only [List.mem_cons, List.not_mem_nil, or_false] at hv
  rcases hv with rfl | rfl | rfl | rfl | rfl
  ·obtain ⟨t, ht, h⟩ := h
   exact ⟨_, _, _, _, _, hcl, .tags hcc hal has ht, h⟩
  ·obtain ⟨t, ht, h⟩ := h
   exact ⟨_, _, _, _, _, hcl, .par hcc hal has ht, h⟩
  ·obtain ⟨t, ht, tp, htp, h⟩ := h
   exact ⟨_, _, _, _, _, hcl, .key hcc hal has ht htp, h⟩
  ·obtain ⟨e, he, t, ht, h⟩ := h
   exact ⟨_, _, _, _, _, hcl, .calcs ⟨e, he, t, ht, rfl⟩ hal has, h⟩
  ·obtain ⟨key, hk, kd, hkd, pr, hp, par, hpar, h⟩ := h
   exact ⟨_, _, _, _, _, hcl, .alarms hcc ⟨key, hk, kd, hkd, pr, hp, par, hpar, rfl⟩ has, h⟩
 ·exact ⟨_, _, _, _, _, hcl, .base hcc hal has, h⟩
end Go.Proofs.YtdhkejcldipbmaaGreatDoor
