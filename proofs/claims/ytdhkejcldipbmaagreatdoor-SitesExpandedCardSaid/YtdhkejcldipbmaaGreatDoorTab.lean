/-
  The functions that are run, and the answers that are known.
-/
import Derived.Test.YtdhkejcldipbmaaGreatDoorTba
import Derived.Test.YtdhkejcldipbmaaGreatDoorTbb
import Derived.Test.YtdhkejcldipbmaaGreatDoorTbc
import Derived.Test.YtdhkejcldipbmaaGreatDoorTbd
import Derived.Test.YtdhkejcldipbmaaGreatDoorTbe
import Derived.Test.YtdhkejcldipbmaaGreatDoorTbf
import Derived.Test.YtdhkejcldipbmaaGreatDoorOrf
import Derived.Test.YtdhkejcldipbmaaGreatDoorOrm
import Derived.Test.YtdhkejcldipbmaaGreatDoorAiZ
namespace Go.Proofs.YtdhkejcldipbmaaGreatDoor
open Go Go.Ai Go.Proofs
set_option maxRecDepth 100000
noncomputable def tb : List (Ent Tryz.prog) := [e_scan, e_pnext, e_pcmp, e_pfac, e_parse, e_xparsed, e_kids, e_order2, e_inss, e_blen64, e_idxf, e_revs, e_ssfa, e_idfa, e_bsfa, e_rfail, e_rcmp, e_rrowb, e_rnum, e_rleav, e_rcat, e_rord2, e_rin, e_atoi, e_fint, e_ptf2, e_ptpl1, e_pca, e_pcalcs1, e_punder, e_qtf3, e_qeach, e_qcalcs, e_qalms1, e_qafl, e_contains, e_repl, e_digit, e_pfail, e_psum, e_pmin, e_xchk, e_each, e_kids1, e_xorder, e_less, e_cmpc, e_ctnf, e_ssfc, e_stba, e_ctfc, e_rfun, e_rtake, e_rcmp1, e_rfac, e_rparsed, e_rtagin, e_rcat1, e_rcf, e_tpre, e_atoi2, e_ssmall, e_pbare, e_pfind, e_pexp, e_palms, e_qtf, e_qtpl, e_qeach1, e_qcalcs1, e_qalms2, e_qnf, e_index, e_siteof, e_small, e_pis, e_pprd, e_penc, e_xname, e_ntags, e_order, e_srts, e_isnan, e_cpts, e_idxs, e_stbc, e_insa, e_ctfa, e_rtok, e_rneed, e_rcmp2, e_rname, e_rchk, e_rkids, e_rord, e_rkey, e_tpre2, e_itoa, e_ptf, e_pct, e_pfind1, e_ptags, e_palms1, e_qtf1, e_qast, e_qtags, e_qcalcs2, e_qpath, e_qonce, e_index2, e_opnd, e_ptake, e_pjoin, e_pshf, e_xcc, e_ntags1, e_order1, e_pdqs, e_blen, e_dels, e_ctns, e_insc, e_idfc, e_bsft, e_rnext, e_rclose, e_rrowa, e_rsmall, e_rtags, e_rkids1, e_rord1, e_ronly, e_hpre, e_itoa2, e_ptf1, e_ptpl, e_ppath, e_pcalcs, e_pce1, e_qtf2, e_qaf, e_qtags1, e_qalms, e_qunder, e_qtwice, e_replall, e_pce, e_qsf, e_cmpor, e_pcs, e_ptagsX, e_pcalcsX, e_palmsX, e_ppathX, e_punderX, e_aca, e_aaf, e_afind, e_afind1, e_apar, e_bout, e_bsfal, e_raf, e_raf1, e_raof, e_raof1, e_rin1, e_rlimf, e_qsf1, e_rspan, e_pcc, e_qclk, e_odd, e_clks, e_aclk]
def FS : List (OF Tryz.prog) := [oKey, oRKey, oIdx, oIdx2, oCmp, oCnt, oAto]
def MS : List (OM Tryz.prog) := [oKys, oSrt, oCln, oGrw, oWrs, oStr]
noncomputable def twr : CfT × CmT := tower (mkO FS MS) tb 60 40
/-- A run. -/
noncomputable def R (f : FuncId) (args : List Val) : Option (List Cel × Val) := twr.1 f none args
theorem R_fc {f : FuncId} {args : List Val} {r : Val} (h : R f args = some ([], r)) : FC Tryz.prog f none args (fun _ y => y = r) := run_fc h
/-- A run with answers on trust. -/
noncomputable def W (e : Ent Tryz.prog) (T : TrT) (args : List Val) : Option (Val × Lg) := if args.length ≤ e.fn.ntmps then endW e.rs (xcW twr.1 twr.2 60 e.ac T (initSt none args)) else none
theorem W_fc {e : Ent Tryz.prog} {T : TrT} {args : List Val} {r : Val} {lg : Lg} (h : W e T args = some (r, lg)) (hl : LgOk Tryz.prog lg) : FC Tryz.prog e.f none args (fun _ y => y = r) := by
  unfold W at h
  split at h
  · obtain ⟨h1, h2⟩ := tower_ok (mkO FS MS) tb 60 40
    exact run_tr h1 h2 (by assumption) h hl
  · cases h
end Go.Proofs.YtdhkejcldipbmaaGreatDoor
